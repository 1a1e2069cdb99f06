/- What functions of the program compute. No condition. -/
import Derived.Test.YtgpipheibnlkhaaWRd4
set_option linter.unusedSimpArgs false
set_option linter.unusedVariables false
namespace Go.Proofs.Ytgpipheibnlkhaa
open Go Go.Ab

theorem ints_read (s : RS) (hl : s.b.length < 2 ^ 62) : ACall Try.prog 49 [.ref 0 0 0] [s.obj] fun y H' => y = .own 1 1 0 (intsR s).1.length ∧ H' = [(intsR s).2.obj, .arr 1 ((intsR s).1.map I64)] := by
  have key : ACall Try.prog 49 [.ref 0 0 0] [s.obj] fun y H' => (y = .nils ∧ (intsR s).1 = [] ∧ ∃ G, H' = (intsR s).2.obj :: G) ∨
      (y = .own 3 1 0 (intsR s).1.length ∧ ∃ a b G, H' = (intsR s).2.obj :: a :: b :: .arr 1 ((intsR s).1.map I64) :: G) := by
    refine acall_defer (g := 72) (cc0 := cc49001) (ccr := cc49002) (N := 20) (t := 3) (capo := [.tmp 2, .tmp 1]) is69.mix Try.func49 (fn := Try.f49) (by kernel_rfl) rfl rfl (by kernel_rfl) (by kernel_rfl) (by kernel_rfl) (by kernel_rfl) (by omega) rfl rfl (by kernel_rfl) rfl rfl rfl
      (fun r H y => ∃ b, r.get 2 = .ref b 0 0 ∧ H[b]? = some (.box [y])) (by simp) (res_cell rfl (by kernel_rfl)) rfl ?_
    obtain ⟨l, e⟩ := s
    simp only at hl
    unfold cc49001 RS.obj
    simp -implicitDefEqProofs (maxSteps := 500000) (disch := first | decide | omega) only [↓preS, ↓reduceIte, allS, Nat.reduceBEq, Nat.reduceAdd, Nat.reduceEqDiff, reduceIte, Int.reduceToNat, Int.reduceLE, Int.reduceLT, Nat.reduceLeDiff, Nat.reduceMul, Nat.reducePow, Nat.reduceLT, Int.reduceBEq, Int.reduceBNe, Int.reduceAdd, Int.reduceSub, Int.reduceMul, Int.reduceGT, Int.reduceGE, decS, Int.reduceNe, Int.reduceEq]
    refine ⟨by simp, by kernel_rfl, by kernel_rfl, ?_⟩
    show aw Try.prog cc49002 (deferQ Try.prog 72 [.ref 2 0 0, .ref 1 0 0] _ _) _
    unfold cc49002 
    simp -implicitDefEqProofs (maxSteps := 500000) (disch := first | decide | omega) only [↓preS, ↓reduceIte, allS, Nat.reduceBEq, Nat.reduceAdd, Nat.reduceEqDiff, reduceIte, Int.reduceToNat, Int.reduceLE, Int.reduceLT, Nat.reduceLeDiff, Nat.reduceMul, Nat.reducePow, Nat.reduceLT, Int.reduceBEq, Int.reduceBNe, Int.reduceAdd, Int.reduceSub, Int.reduceMul, Int.reduceGT, Int.reduceGE, decS, Int.reduceNe, Int.reduceEq, RB, partOf]
    refine cK_split (fun hb => ?_) (fun hb => ?_)
    · simp (disch := omega) only [decide_eq_true_eq, decide_eq_false_iff_not, wrap_i64, beq_iff_eq, bne_iff_ne, beq_eq_false_iff_ne, bne_eq_false_iff_eq, Bool.not_eq_true, Bool.not_eq_false, eq_u32, ne_u32] at hb
      subst hb
      obtain ⟨n, hn, hn2⟩ := num_two (l.take 2) (by simp; omega)
      simp -implicitDefEqProofs (maxSteps := 500000) (disch := first | decide | omega) only [↓preS, ↓reduceIte, allS, Nat.reduceBEq, Nat.reduceAdd, Nat.reduceEqDiff, reduceIte, Int.reduceToNat, Int.reduceLE, Int.reduceLT, Nat.reduceLeDiff, Nat.reduceMul, Nat.reducePow, Nat.reduceLT, Int.reduceBEq, Int.reduceBNe, Int.reduceAdd, Int.reduceSub, Int.reduceMul, Int.reduceGT, Int.reduceGE, decS, Int.reduceNe, Int.reduceEq, partOf]
      refine acK_obj (number_ok l 0 2 hl) rfl rfl rfl rfl rfl ?_ ?_
      · rintro y Hr ⟨h1, rfl, rfl⟩
        rw [hn]
        simp -implicitDefEqProofs (maxSteps := 500000) (disch := first | decide | omega) only [↓preS, ↓reduceIte, allS, Nat.reduceBEq, Nat.reduceAdd, Nat.reduceEqDiff, reduceIte, Int.reduceToNat, Int.reduceLE, Int.reduceLT, Nat.reduceLeDiff, Nat.reduceMul, Nat.reducePow, Nat.reduceLT, Int.reduceBEq, Int.reduceBNe, Int.reduceAdd, Int.reduceSub, Int.reduceMul, Int.reduceGT, Int.reduceGE, decS, Int.reduceNe, Int.reduceEq, AV.ren, AV.renL, spl_one, RB, AO.ren, partOf]
        refine loop25 n hn2 (l.drop 2) (by simp; omega) _ (fun xs r hg => ?_) (fun r hg v G rg hrg => ?_)
        · simp -implicitDefEqProofs (maxSteps := 500000) (disch := first | decide | omega) only [↓preS, ↓reduceIte, allS, Nat.reduceBEq, Nat.reduceAdd, Nat.reduceEqDiff, reduceIte, Int.reduceToNat, Int.reduceLE, Int.reduceLT, Nat.reduceLeDiff, Nat.reduceMul, Nat.reducePow, Nat.reduceLT, Int.reduceBEq, Int.reduceBNe, Int.reduceAdd, Int.reduceSub, Int.reduceMul, Int.reduceGT, Int.reduceGE, decS, Int.reduceNe, Int.reduceEq, RB, partOf]
          refine (clos40 r 0 none (.inl rfl) _ _).mono fun H' ⟨G, h⟩ => ⟨.own 3 1 0 xs.length, ⟨2, rfl, by rw [h]; rfl⟩, .inr ?_⟩
          simp only [intsR, h1, hn, Int.toNat_natCast, hg, if_true]
          exact ⟨trivial, _, _, G, h⟩
        · simp -implicitDefEqProofs (maxSteps := 500000) (disch := first | decide | omega) only [↓preS, ↓reduceIte, allS, Nat.reduceBEq, Nat.reduceAdd, Nat.reduceEqDiff, reduceIte, Int.reduceToNat, Int.reduceLE, Int.reduceLT, Nat.reduceLeDiff, Nat.reduceMul, Nat.reducePow, Nat.reduceLT, Int.reduceBEq, Int.reduceBNe, Int.reduceAdd, Int.reduceSub, Int.reduceMul, Int.reduceGT, Int.reduceGE, decS, Int.reduceNe, Int.reduceEq]
          refine (clos40 r 0 (some CUT) (.inr rfl) _ _).mono fun H' ⟨G, h⟩ => ⟨.nils, ⟨2, hrg, by rw [h]; rfl⟩, .inl ?_⟩
          simp only [intsR, h1, hn, Int.toNat_natCast, hg, if_true]
          exact ⟨trivial, trivial, _, h⟩
      · rintro y Hr ⟨h1, rfl, rfl⟩
        have h2 : ¬ 2 ≤ l.length := by omega
        simp -implicitDefEqProofs (maxSteps := 500000) (disch := first | decide | omega) only [↓preS, ↓reduceIte, allS, Nat.reduceBEq, Nat.reduceAdd, Nat.reduceEqDiff, reduceIte, Int.reduceToNat, Int.reduceLE, Int.reduceLT, Nat.reduceLeDiff, Nat.reduceMul, Nat.reducePow, Nat.reduceLT, Int.reduceBEq, Int.reduceBNe, Int.reduceAdd, Int.reduceSub, Int.reduceMul, Int.reduceGT, Int.reduceGE, decS, Int.reduceNe, Int.reduceEq, AV.ren, AV.renL, spl_one, RB, AO.ren, CUT]
        refine (clos40 l 0 (some CUT) (.inr rfl) _ _).mono fun H' ⟨G, h⟩ => ⟨.nils, ⟨2, rfl, by rw [h]; rfl⟩, .inl ?_⟩
        simp only [intsR, h2, if_true, if_false]
        exact ⟨trivial, trivial, _, h⟩
    · simp (disch := omega) only [decide_eq_true_eq, decide_eq_false_iff_not, wrap_i64, beq_iff_eq, bne_iff_ne, beq_eq_false_iff_ne, bne_eq_false_iff_eq, Bool.not_eq_true, Bool.not_eq_false, eq_u32, ne_u32] at hb
      simp -implicitDefEqProofs (maxSteps := 500000) (disch := first | decide | omega) only [↓preS, ↓reduceIte, allS, Nat.reduceBEq, Nat.reduceAdd, Nat.reduceEqDiff, reduceIte, Int.reduceToNat, Int.reduceLE, Int.reduceLT, Nat.reduceLeDiff, Nat.reduceMul, Nat.reducePow, Nat.reduceLT, Int.reduceBEq, Int.reduceBNe, Int.reduceAdd, Int.reduceSub, Int.reduceMul, Int.reduceGT, Int.reduceGE, decS, Int.reduceNe, Int.reduceEq, partOf]
      refine (clos40 l e none (.inl rfl) _ _).mono fun H' ⟨G, h⟩ => ⟨.nils, ⟨2, rfl, by rw [h]; rfl⟩, .inl ?_⟩
      simp only [intsR, hb, if_false]
      exact ⟨trivial, trivial, _, h⟩
  refine key.sub ?_
  rintro y G (⟨rfl, h1, G, rfl⟩ | ⟨rfl, a, b, G, rfl⟩)
  · rw [h1]
    refine ⟨_, _, ?_, rfl, rfl⟩
    simp only [RS.obj, RB]
    (refine Sub.ofL [some 0, none] rfl (by simp) (by decide) (by simp [partL, AO.ro, AV.ro, AV.roL, names, AO.empty, SB, U8, SI, I64, STR]) (by simp [AO.bo, AV.bo, AV.boL, names]) ?_ <;> (try simp only [List.map_cons, List.map_nil, regsL, AV.ro, AV.roL, AV.bo, AV.boL, names, get_here, get_there, Nat.reduceBEq, List.getD_cons_zero, List.getD_cons_succ, List.getD_nil, and_true, true_and, Nat.reduceLT, List.length_cons, List.length_nil, Nat.reduceAdd, decide_true, Option.isSome_some, Bool.true_or, Bool.and_self, Option.isSome_none, Bool.false_or, beq_self_eq_true, wk0_self, wk0_nils]) <;> (try and_intros) <;> (first | done | rfl | exact .inl rfl | exact .inr ⟨rfl, _, _, rfl⟩ | (simp; done) | (simp; omega) | (refine .inl ?_; simp; done) | (refine .inl ?_; simp; omega)))
  · refine ⟨_, _, ?_, rfl, rfl⟩
    simp only [RS.obj, RB]
    (refine Sub.ofL [some 0, some 3] rfl (by simp) (by decide) (by simp [partL, AO.ro, AV.ro, AV.roL, names, AO.empty, SB, U8, SI, I64, STR]) (by simp [AO.bo, AV.bo, AV.boL, names]) ?_ <;> (try simp only [List.map_cons, List.map_nil, regsL, AV.ro, AV.roL, AV.bo, AV.boL, names, get_here, get_there, Nat.reduceBEq, List.getD_cons_zero, List.getD_cons_succ, List.getD_nil, and_true, true_and, Nat.reduceLT, List.length_cons, List.length_nil, Nat.reduceAdd, decide_true, Option.isSome_some, Bool.true_or, Bool.and_self, Option.isSome_none, Bool.false_or, beq_self_eq_true, wk0_self, wk0_nils]) <;> (try and_intros) <;> (first | done | rfl | exact .inl rfl | exact .inr ⟨rfl, _, _, rfl⟩ | (simp; done) | (simp; omega) | (refine .inl ?_; simp; done) | (refine .inl ?_; simp; omega)))
end Go.Proofs.Ytgpipheibnlkhaa
