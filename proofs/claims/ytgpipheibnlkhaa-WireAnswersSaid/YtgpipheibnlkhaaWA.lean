/- What functions of the program compute. No condition. -/
import Derived.Test.YtgpipheibnlkhaaWO
import Derived.Test.YtgpipheibnlkhaaWQ
import Derived.Test.YtgpipheibnlkhaaWV
set_option linter.unusedSimpArgs false
set_option linter.unusedVariables false
namespace Go.Proofs.Ytgpipheibnlkhaa
open Go Go.Ab

def markR (m : Int) (s : RS) : RS := if m ≠ 0 ∧ m ≠ 1 then failR s 10 else s
def cont1 (s : RS) : Cont × RS :=
  let a := intR s
  let b := intR a.2
  let c := intR b.2
  let d := intR c.2
  let e := intR d.2
  let f := intR e.2
  let g := intR f.2
  let m := intR g.2
  let n := intR (markR m.1 m.2)
  (⟨a.1, b.1, c.1, d.1, e.1, f.1, g.1, m.1 == 1, n.1⟩, n.2)
def contsN : Nat → RS → List Cont × RS
  | 0, s => ([], s)
  | n + 1, s => ((cont1 s).1 :: (contsN n (cont1 s).2).1, (contsN n (cont1 s).2).2)

theorem markR_le (m : Int) (s : RS) : (markR m s).b.length ≤ s.b.length := by
  unfold markR failR
  split <;> exact Nat.le_refl _
theorem cont1_le (s : RS) : (cont1 s).2.b.length ≤ s.b.length := by
  unfold cont1
  have h1 := intR_le s
  have h2 := intR_le (intR s).2
  have h3 := intR_le (intR (intR s).2).2
  have h4 := intR_le (intR (intR (intR s).2).2).2
  have h5 := intR_le (intR (intR (intR (intR s).2).2).2).2
  have h6 := intR_le (intR (intR (intR (intR (intR s).2).2).2).2).2
  have h7 := intR_le (intR (intR (intR (intR (intR (intR s).2).2).2).2).2).2
  have h8 := intR_le (intR (intR (intR (intR (intR (intR (intR s).2).2).2).2).2).2).2
  have h9 := markR_le (intR (intR (intR (intR (intR (intR (intR (intR s).2).2).2).2).2).2).2).1 (intR (intR (intR (intR (intR (intR (intR (intR s).2).2).2).2).2).2).2).2
  have h10 := intR_le (markR (intR (intR (intR (intR (intR (intR (intR (intR s).2).2).2).2).2).2).2).1 (intR (intR (intR (intR (intR (intR (intR (intR s).2).2).2).2).2).2).2).2)
  simp only
  omega
theorem contsN_snoc : ∀ (n : Nat) (s : RS), contsN (n + 1) s = ((contsN n s).1 ++ [(cont1 (contsN n s).2).1], (cont1 (contsN n s).2).2)
  | 0, s => rfl
  | n + 1, s => by
    have ih := contsN_snoc n (cont1 s).2
    rw [contsN, ih]
    rfl
theorem contsN_len : ∀ (n : Nat) (s : RS), (contsN n s).1.length = n
  | 0, s => rfl
  | n + 1, s => by rw [contsN_snoc]; simp [contsN_len n s]
theorem contsN_le : ∀ (n : Nat) (s : RS), (contsN n s).2.b.length ≤ s.b.length
  | 0, s => Nat.le_refl _
  | n + 1, s => by
    rw [contsN_snoc]
    exact Nat.le_trans (cont1_le _) (contsN_le n s)

theorem nxt_cont {P : Program} {d : Bool} {t : Nat} {l : List COper} {r : Regs} {L : St → Prop} {Lp : AV → St → Prop} {c : Cont} {H : List AO} : nxt P d t l r L Lp (CONT c) H = opsK P d l ⟨(t, CONT c) :: r, H⟩ L Lp := rfl

set_option maxRecDepth 20000 in
set_option maxHeartbeats 2000000 in
theorem cont_read (s : RS) (hs : s.b.length < 2 ^ 62) : ACall Try.prog 59 [.ref 0 0 0] [s.obj] fun y H' => y = CONT (cont1 s).1 ∧ H' = [(cont1 s).2.obj] := by
  have key : ACall Try.prog 59 [.ref 0 0 0] [s.obj] fun y H' => y = CONT (cont1 s).1 ∧ ∃ G, H' = (cont1 s).2.obj :: G := by
    refine acallR_at isR59 (by simp) rfl ?_
    unfold cc59
    simp -implicitDefEqProofs (maxSteps := 500000) (disch := first | decide | omega) only [↓preS, ↓reduceIte, allS, Nat.reduceBEq, Nat.reduceAdd, Nat.reduceEqDiff, reduceIte, Int.reduceToNat, Int.reduceLE, Int.reduceLT, Nat.reduceLeDiff, Nat.reduceMul, Nat.reducePow, Nat.reduceLT, Int.reduceBEq, Int.reduceBNe, Int.reduceAdd, Int.reduceSub, Int.reduceMul, Int.reduceGT, Int.reduceGE, decS, Int.reduceNe, Int.reduceEq]
    have h1 := intR_le s
    have h2 := intR_le (intR s).2
    have h3 := intR_le (intR (intR s).2).2
    have h4 := intR_le (intR (intR (intR s).2).2).2
    have h5 := intR_le (intR (intR (intR (intR s).2).2).2).2
    have h6 := intR_le (intR (intR (intR (intR (intR s).2).2).2).2).2
    have h7 := intR_le (intR (intR (intR (intR (intR (intR s).2).2).2).2).2).2
    have h8 := intR_le (intR (intR (intR (intR (intR (intR (intR s).2).2).2).2).2).2).2
    refine acK_rd (int_read s (by omega)) rfl (fun _ => rfl) (fun _ => rfl) rfl (fun _ => rfl) (fun _ => rfl) rfl ?_
    simp -implicitDefEqProofs (maxSteps := 500000) (disch := first | decide | omega) only [↓preS, ↓reduceIte, allS, Nat.reduceBEq, Nat.reduceAdd, Nat.reduceEqDiff, reduceIte, Int.reduceToNat, Int.reduceLE, Int.reduceLT, Nat.reduceLeDiff, Nat.reduceMul, Nat.reducePow, Nat.reduceLT, Int.reduceBEq, Int.reduceBNe, Int.reduceAdd, Int.reduceSub, Int.reduceMul, Int.reduceGT, Int.reduceGE, decS, Int.reduceNe, Int.reduceEq, fillOk, fillAV]
    refine acK_rd (int_read (intR s).2 (by omega)) rfl (fun _ => rfl) (fun _ => rfl) rfl (fun _ => rfl) (fun _ => rfl) rfl ?_
    simp -implicitDefEqProofs (maxSteps := 500000) (disch := first | decide | omega) only [↓preS, ↓reduceIte, allS, Nat.reduceBEq, Nat.reduceAdd, Nat.reduceEqDiff, reduceIte, Int.reduceToNat, Int.reduceLE, Int.reduceLT, Nat.reduceLeDiff, Nat.reduceMul, Nat.reducePow, Nat.reduceLT, Int.reduceBEq, Int.reduceBNe, Int.reduceAdd, Int.reduceSub, Int.reduceMul, Int.reduceGT, Int.reduceGE, decS, Int.reduceNe, Int.reduceEq, fillOk, fillAV]
    refine acK_rd (int_read (intR (intR s).2).2 (by omega)) rfl (fun _ => rfl) (fun _ => rfl) rfl (fun _ => rfl) (fun _ => rfl) rfl ?_
    simp -implicitDefEqProofs (maxSteps := 500000) (disch := first | decide | omega) only [↓preS, ↓reduceIte, allS, Nat.reduceBEq, Nat.reduceAdd, Nat.reduceEqDiff, reduceIte, Int.reduceToNat, Int.reduceLE, Int.reduceLT, Nat.reduceLeDiff, Nat.reduceMul, Nat.reducePow, Nat.reduceLT, Int.reduceBEq, Int.reduceBNe, Int.reduceAdd, Int.reduceSub, Int.reduceMul, Int.reduceGT, Int.reduceGE, decS, Int.reduceNe, Int.reduceEq, fillOk, fillAV]
    refine acK_rd (int_read (intR (intR (intR s).2).2).2 (by omega)) rfl (fun _ => rfl) (fun _ => rfl) rfl (fun _ => rfl) (fun _ => rfl) rfl ?_
    simp -implicitDefEqProofs (maxSteps := 500000) (disch := first | decide | omega) only [↓preS, ↓reduceIte, allS, Nat.reduceBEq, Nat.reduceAdd, Nat.reduceEqDiff, reduceIte, Int.reduceToNat, Int.reduceLE, Int.reduceLT, Nat.reduceLeDiff, Nat.reduceMul, Nat.reducePow, Nat.reduceLT, Int.reduceBEq, Int.reduceBNe, Int.reduceAdd, Int.reduceSub, Int.reduceMul, Int.reduceGT, Int.reduceGE, decS, Int.reduceNe, Int.reduceEq, fillOk, fillAV]
    refine acK_rd (int_read (intR (intR (intR (intR s).2).2).2).2 (by omega)) rfl (fun _ => rfl) (fun _ => rfl) rfl (fun _ => rfl) (fun _ => rfl) rfl ?_
    simp -implicitDefEqProofs (maxSteps := 500000) (disch := first | decide | omega) only [↓preS, ↓reduceIte, allS, Nat.reduceBEq, Nat.reduceAdd, Nat.reduceEqDiff, reduceIte, Int.reduceToNat, Int.reduceLE, Int.reduceLT, Nat.reduceLeDiff, Nat.reduceMul, Nat.reducePow, Nat.reduceLT, Int.reduceBEq, Int.reduceBNe, Int.reduceAdd, Int.reduceSub, Int.reduceMul, Int.reduceGT, Int.reduceGE, decS, Int.reduceNe, Int.reduceEq, fillOk, fillAV]
    refine acK_rd (int_read (intR (intR (intR (intR (intR s).2).2).2).2).2 (by omega)) rfl (fun _ => rfl) (fun _ => rfl) rfl (fun _ => rfl) (fun _ => rfl) rfl ?_
    simp -implicitDefEqProofs (maxSteps := 500000) (disch := first | decide | omega) only [↓preS, ↓reduceIte, allS, Nat.reduceBEq, Nat.reduceAdd, Nat.reduceEqDiff, reduceIte, Int.reduceToNat, Int.reduceLE, Int.reduceLT, Nat.reduceLeDiff, Nat.reduceMul, Nat.reducePow, Nat.reduceLT, Int.reduceBEq, Int.reduceBNe, Int.reduceAdd, Int.reduceSub, Int.reduceMul, Int.reduceGT, Int.reduceGE, decS, Int.reduceNe, Int.reduceEq, fillOk, fillAV]
    refine acK_rd (int_read (intR (intR (intR (intR (intR (intR s).2).2).2).2).2).2 (by omega)) rfl (fun _ => rfl) (fun _ => rfl) rfl (fun _ => rfl) (fun _ => rfl) rfl ?_
    simp -implicitDefEqProofs (maxSteps := 500000) (disch := first | decide | omega) only [↓preS, ↓reduceIte, allS, Nat.reduceBEq, Nat.reduceAdd, Nat.reduceEqDiff, reduceIte, Int.reduceToNat, Int.reduceLE, Int.reduceLT, Nat.reduceLeDiff, Nat.reduceMul, Nat.reducePow, Nat.reduceLT, Int.reduceBEq, Int.reduceBNe, Int.reduceAdd, Int.reduceSub, Int.reduceMul, Int.reduceGT, Int.reduceGE, decS, Int.reduceNe, Int.reduceEq, fillOk, fillAV]
    refine acK_rd (int_read (intR (intR (intR (intR (intR (intR (intR s).2).2).2).2).2).2).2 (by omega)) rfl (fun _ => rfl) (fun _ => rfl) rfl (fun _ => rfl) (fun _ => rfl) rfl ?_
    have ec : cont1 s = (⟨(intR s).1, (intR (intR s).2).1, (intR (intR (intR s).2).2).1, (intR (intR (intR (intR s).2).2).2).1, (intR (intR (intR (intR (intR s).2).2).2).2).1, (intR (intR (intR (intR (intR (intR s).2).2).2).2).2).1, (intR (intR (intR (intR (intR (intR (intR s).2).2).2).2).2).2).1, (intR (intR (intR (intR (intR (intR (intR (intR s).2).2).2).2).2).2).2).1 == 1, (intR (markR (intR (intR (intR (intR (intR (intR (intR (intR s).2).2).2).2).2).2).2).1 (intR (intR (intR (intR (intR (intR (intR (intR s).2).2).2).2).2).2).2).2)).1⟩, (intR (markR (intR (intR (intR (intR (intR (intR (intR (intR s).2).2).2).2).2).2).2).1 (intR (intR (intR (intR (intR (intR (intR (intR s).2).2).2).2).2).2).2).2)).2) := rfl
    rw [ec]
    generalize intR (intR (intR (intR (intR (intR (intR (intR s).2).2).2).2).2).2).2 = q at h8 ⊢
    obtain ⟨m, u⟩ := q
    simp only at h8 ⊢
    by_cases hm : m ≠ 0 ∧ m ≠ 1
    · have em : markR m u = failR u 10 := if_pos hm
      rw [em]
      simp -implicitDefEqProofs (maxSteps := 500000) (disch := first | decide | omega) only [↓preS, ↓reduceIte, allS, Nat.reduceBEq, Nat.reduceAdd, Nat.reduceEqDiff, reduceIte, Int.reduceToNat, Int.reduceLE, Int.reduceLT, Nat.reduceLeDiff, Nat.reduceMul, Nat.reducePow, Nat.reduceLT, Int.reduceBEq, Int.reduceBNe, Int.reduceAdd, Int.reduceSub, Int.reduceMul, Int.reduceGT, Int.reduceGE, decS, Int.reduceNe, Int.reduceEq, fillOk, fillAV]
      refine acK_rd (fail_ok u.b u.e 10) rfl (fun _ => rfl) (fun _ => rfl) rfl (fun _ => rfl) (fun _ => rfl) rfl ?_
      simp -implicitDefEqProofs (maxSteps := 500000) (disch := first | decide | omega) only [↓preS, ↓reduceIte, allS, Nat.reduceBEq, Nat.reduceAdd, Nat.reduceEqDiff, reduceIte, Int.reduceToNat, Int.reduceLE, Int.reduceLT, Nat.reduceLeDiff, Nat.reduceMul, Nat.reducePow, Nat.reduceLT, Int.reduceBEq, Int.reduceBNe, Int.reduceAdd, Int.reduceSub, Int.reduceMul, Int.reduceGT, Int.reduceGE, decS, Int.reduceNe, Int.reduceEq, fillOk, fillAV]
      refine acK_rd (int_read (failR u 10) (by show u.b.length < _; omega)) rfl (fun _ => rfl) (fun _ => rfl) rfl (fun _ => rfl) (fun _ => rfl) rfl ?_
      simp -implicitDefEqProofs (maxSteps := 500000) (disch := first | decide | omega) only [↓preS, ↓reduceIte, allS, Nat.reduceBEq, Nat.reduceAdd, Nat.reduceEqDiff, reduceIte, Int.reduceToNat, Int.reduceLE, Int.reduceLT, Nat.reduceLeDiff, Nat.reduceMul, Nat.reducePow, Nat.reduceLT, Int.reduceBEq, Int.reduceBNe, Int.reduceAdd, Int.reduceSub, Int.reduceMul, Int.reduceGT, Int.reduceGE, decS, Int.reduceNe, Int.reduceEq, fillOk, fillAV]
      exact ⟨rfl, _, rfl⟩
    · have em : markR m u = u := if_neg hm
      rw [em]
      have hm2 : m = 0 ∨ m = 1 := by omega
      rcases hm2 with rfl | rfl
      · simp -implicitDefEqProofs (maxSteps := 500000) (disch := first | decide | omega) only [↓preS, ↓reduceIte, allS, Nat.reduceBEq, Nat.reduceAdd, Nat.reduceEqDiff, reduceIte, Int.reduceToNat, Int.reduceLE, Int.reduceLT, Nat.reduceLeDiff, Nat.reduceMul, Nat.reducePow, Nat.reduceLT, Int.reduceBEq, Int.reduceBNe, Int.reduceAdd, Int.reduceSub, Int.reduceMul, Int.reduceGT, Int.reduceGE, decS, Int.reduceNe, Int.reduceEq, fillOk, fillAV]
        refine acK_rd (int_read u (by omega)) rfl (fun _ => rfl) (fun _ => rfl) rfl (fun _ => rfl) (fun _ => rfl) rfl ?_
        simp -implicitDefEqProofs (maxSteps := 500000) (disch := first | decide | omega) only [↓preS, ↓reduceIte, allS, Nat.reduceBEq, Nat.reduceAdd, Nat.reduceEqDiff, reduceIte, Int.reduceToNat, Int.reduceLE, Int.reduceLT, Nat.reduceLeDiff, Nat.reduceMul, Nat.reducePow, Nat.reduceLT, Int.reduceBEq, Int.reduceBNe, Int.reduceAdd, Int.reduceSub, Int.reduceMul, Int.reduceGT, Int.reduceGE, decS, Int.reduceNe, Int.reduceEq, fillOk, fillAV]
        exact ⟨rfl, _, rfl⟩
      · simp -implicitDefEqProofs (maxSteps := 500000) (disch := first | decide | omega) only [↓preS, ↓reduceIte, allS, Nat.reduceBEq, Nat.reduceAdd, Nat.reduceEqDiff, reduceIte, Int.reduceToNat, Int.reduceLE, Int.reduceLT, Nat.reduceLeDiff, Nat.reduceMul, Nat.reducePow, Nat.reduceLT, Int.reduceBEq, Int.reduceBNe, Int.reduceAdd, Int.reduceSub, Int.reduceMul, Int.reduceGT, Int.reduceGE, decS, Int.reduceNe, Int.reduceEq, fillOk, fillAV]
        refine acK_rd (int_read u (by omega)) rfl (fun _ => rfl) (fun _ => rfl) rfl (fun _ => rfl) (fun _ => rfl) rfl ?_
        simp -implicitDefEqProofs (maxSteps := 500000) (disch := first | decide | omega) only [↓preS, ↓reduceIte, allS, Nat.reduceBEq, Nat.reduceAdd, Nat.reduceEqDiff, reduceIte, Int.reduceToNat, Int.reduceLE, Int.reduceLT, Nat.reduceLeDiff, Nat.reduceMul, Nat.reducePow, Nat.reduceLT, Int.reduceBEq, Int.reduceBNe, Int.reduceAdd, Int.reduceSub, Int.reduceMul, Int.reduceGT, Int.reduceGE, decS, Int.reduceNe, Int.reduceEq, fillOk, fillAV]
        exact ⟨rfl, _, rfl⟩
  refine key.sub ?_
  rintro y G ⟨rfl, G, rfl⟩
  refine ⟨_, _, ?_, rfl, rfl⟩
  simp only [RS.obj, RB, CONT]
  (refine Sub.ofL [some 0] rfl (by simp) (by decide) (by simp [partL, AO.ro, AV.ro, AV.roL, names, AO.empty, SB, U8, SI, I64, STR]) (by simp [AO.bo, AV.bo, AV.boL, names]) ?_ <;> (try simp only [List.map_cons, List.map_nil, regsL, AV.ro, AV.roL, AV.bo, AV.boL, names, get_here, get_there, Nat.reduceBEq, List.getD_cons_zero, List.getD_cons_succ, List.getD_nil, and_true, true_and, Nat.reduceLT, List.length_cons, List.length_nil, Nat.reduceAdd, decide_true, Option.isSome_some, Bool.true_or, Bool.and_self, Option.isSome_none, Bool.false_or, beq_self_eq_true, wk0_self, wk0_nils]) <;> (try and_intros) <;> (first | done | rfl | exact .inl rfl | exact .inr ⟨rfl, _, _, rfl⟩ | (simp; done) | (simp; omega) | (refine .inl ?_; simp; done) | (refine .inl ?_; simp; omega)))
end Go.Proofs.Ytgpipheibnlkhaa
