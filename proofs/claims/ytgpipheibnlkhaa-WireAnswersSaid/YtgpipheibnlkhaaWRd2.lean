/- What functions of the program compute. No condition. -/
import Derived.Test.YtgpipheibnlkhaaWRd
set_option linter.unusedSimpArgs false
set_option linter.unusedVariables false
namespace Go.Proofs.Ytgpipheibnlkhaa
open Go Go.Ab

/-- A Reader as data. -/
structure RS where
  b : List UInt8
  e : Int
def RS.obj (s : RS) : AO := RB s.b s.e
def intR (s : RS) : Int × RS := if s.e = 0 then (if 8 ≤ s.b.length then (num (s.b.take 8), ⟨s.b.drop 8, 0⟩) else (0, ⟨s.b, 8⟩)) else (0, s)


theorem int_read (s : RS) (hl : s.b.length < 2 ^ 62) : ACall Try.prog 45 [.ref 0 0 0] [s.obj] fun y H' => y = .int .i64 (intR s).1 ∧ H' = [(intR s).2.obj] := by
  have key : ACall Try.prog 45 [.ref 0 0 0] [s.obj] fun y H' => y = .int .i64 (intR s).1 ∧ ∃ G, H' = (intR s).2.obj :: G := by
    refine acall_defer (g := 67) (cc0 := cc45001) (ccr := cc45002) (N := 12) (t := 3) (capo := [.tmp 1]) is69.mix Try.func45 (fn := Try.f45) (by kernel_rfl) rfl rfl (by kernel_rfl) (by kernel_rfl) (by kernel_rfl) (by kernel_rfl) (by omega) rfl rfl (by kernel_rfl) rfl rfl rfl
      (fun r _ y => y = r.get 2) (by simp) (res_tmp rfl) rfl ?_
    obtain ⟨l, e⟩ := s
    simp only at hl
    unfold cc45001 RS.obj
    simp -implicitDefEqProofs (maxSteps := 500000) (disch := first | decide | omega) only [↓preS, ↓reduceIte, allS, Nat.reduceBEq, Nat.reduceAdd, Nat.reduceEqDiff, reduceIte, Int.reduceToNat, Int.reduceLE, Int.reduceLT, Nat.reduceLeDiff, Nat.reduceMul, Nat.reducePow, Nat.reduceLT, Int.reduceBEq, Int.reduceBNe, Int.reduceAdd, Int.reduceSub, Int.reduceMul, Int.reduceGT, Int.reduceGE, decS, Int.reduceNe, Int.reduceEq]
    refine ⟨by simp, rfl, by kernel_rfl, ?_⟩
    show aw Try.prog cc45002 (deferQ Try.prog 67 [.ref 1 0 0] _ _) _
    unfold cc45002 
    simp -implicitDefEqProofs (maxSteps := 500000) (disch := first | decide | omega) only [↓preS, ↓reduceIte, allS, Nat.reduceBEq, Nat.reduceAdd, Nat.reduceEqDiff, reduceIte, Int.reduceToNat, Int.reduceLE, Int.reduceLT, Nat.reduceLeDiff, Nat.reduceMul, Nat.reducePow, Nat.reduceLT, Int.reduceBEq, Int.reduceBNe, Int.reduceAdd, Int.reduceSub, Int.reduceMul, Int.reduceGT, Int.reduceGE, decS, Int.reduceNe, Int.reduceEq, RB, partOf]
    refine cK_split (fun hb => ?_) (fun hb => ?_)
    · simp (disch := omega) only [decide_eq_true_eq, decide_eq_false_iff_not, wrap_i64, beq_iff_eq, bne_iff_ne, beq_eq_false_iff_ne, bne_eq_false_iff_eq, Bool.not_eq_true, Bool.not_eq_false, eq_u32, ne_u32] at hb
      subst hb
      simp -implicitDefEqProofs (maxSteps := 500000) (disch := first | decide | omega) only [↓preS, ↓reduceIte, allS, Nat.reduceBEq, Nat.reduceAdd, Nat.reduceEqDiff, reduceIte, Int.reduceToNat, Int.reduceLE, Int.reduceLT, Nat.reduceLeDiff, Nat.reduceMul, Nat.reducePow, Nat.reduceLT, Int.reduceBEq, Int.reduceBNe, Int.reduceAdd, Int.reduceSub, Int.reduceMul, Int.reduceGT, Int.reduceGE, decS, Int.reduceNe, Int.reduceEq, partOf]
      refine acK_obj (number_ok l 0 8 hl) rfl rfl rfl rfl rfl ?_ ?_
      · rintro y Hr ⟨h1, rfl, rfl⟩
        simp -implicitDefEqProofs (maxSteps := 500000) (disch := first | decide | omega) only [↓preS, ↓reduceIte, allS, Nat.reduceBEq, Nat.reduceAdd, Nat.reduceEqDiff, reduceIte, Int.reduceToNat, Int.reduceLE, Int.reduceLT, Nat.reduceLeDiff, Nat.reduceMul, Nat.reducePow, Nat.reduceLT, Int.reduceBEq, Int.reduceBNe, Int.reduceAdd, Int.reduceSub, Int.reduceMul, Int.reduceGT, Int.reduceGE, decS, Int.reduceNe, Int.reduceEq, AV.ren, AV.renL, spl_one, RB, AO.ren]
        refine (clos33 (l.drop 8) 0 none (.inl rfl) rfl rfl).mono fun H' ⟨G, h⟩ => ⟨_, rfl, ?_, [AO.box [AV.ref 0 0 0]] ++ G, ?_⟩
        · simp [intR, h1, Regs.get]
        · rw [h]
          simp [intR, h1, RB]
      · rintro y Hr ⟨h1, rfl, rfl⟩
        have h2 : ¬ 8 ≤ l.length := by omega
        simp -implicitDefEqProofs (maxSteps := 500000) (disch := first | decide | omega) only [↓preS, ↓reduceIte, allS, Nat.reduceBEq, Nat.reduceAdd, Nat.reduceEqDiff, reduceIte, Int.reduceToNat, Int.reduceLE, Int.reduceLT, Nat.reduceLeDiff, Nat.reduceMul, Nat.reducePow, Nat.reduceLT, Int.reduceBEq, Int.reduceBNe, Int.reduceAdd, Int.reduceSub, Int.reduceMul, Int.reduceGT, Int.reduceGE, decS, Int.reduceNe, Int.reduceEq, AV.ren, AV.renL, spl_one, RB, AO.ren]
        refine (clos33 l 0 (some CUT) (.inr rfl) rfl rfl).mono fun H' ⟨G, h⟩ => ⟨_, rfl, ?_, [AO.box [AV.ref 0 0 0]] ++ G, ?_⟩
        · simp [intR, h2, Regs.get]
        · rw [h]
          simp [intR, h2, RB]
    · simp (disch := omega) only [decide_eq_true_eq, decide_eq_false_iff_not, wrap_i64, beq_iff_eq, bne_iff_ne, beq_eq_false_iff_ne, bne_eq_false_iff_eq, Bool.not_eq_true, Bool.not_eq_false, eq_u32, ne_u32] at hb
      simp -implicitDefEqProofs (maxSteps := 500000) (disch := first | decide | omega) only [↓preS, ↓reduceIte, allS, Nat.reduceBEq, Nat.reduceAdd, Nat.reduceEqDiff, reduceIte, Int.reduceToNat, Int.reduceLE, Int.reduceLT, Nat.reduceLeDiff, Nat.reduceMul, Nat.reducePow, Nat.reduceLT, Int.reduceBEq, Int.reduceBNe, Int.reduceAdd, Int.reduceSub, Int.reduceMul, Int.reduceGT, Int.reduceGE, decS, Int.reduceNe, Int.reduceEq, partOf]
      refine (clos33 l e none (.inl rfl) rfl rfl).mono fun H' ⟨G, h⟩ => ⟨_, rfl, ?_, [AO.box [AV.ref 0 0 0]] ++ G, ?_⟩
      · simp [intR, hb, Regs.get]
      · rw [h]
        simp [intR, hb, RB]
  refine key.drop fun y Hr ⟨h1, G, h2⟩ => ⟨[(intR s).2.obj], G, h2, by simp, by subst h1; rfl, ?_, h1, rfl⟩
  intro o ho
  obtain rfl : o = (intR s).2.obj := by simpa using ho
  rfl
end Go.Proofs.Ytgpipheibnlkhaa
