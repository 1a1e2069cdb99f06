/- What functions of the program compute. No condition. -/
import Derived.Test.YtgpipheibnlkhaaWRd3
set_option linter.unusedSimpArgs false
set_option linter.unusedVariables false
namespace Go.Proofs.Ytgpipheibnlkhaa
open Go Go.Ab

def goI : Nat → List UInt8 → Option (List Int) × List UInt8
  | 0, l => (some [], l)
  | n + 1, l => if 8 ≤ l.length then (match goI n (l.drop 8) with
    | (some xs, r) => (some (num (l.take 8) :: xs), r)
    | (none, r) => (none, r)) else (none, l)

def intsR (s : RS) : List Int × RS :=
  if s.e = 0 then (if 2 ≤ s.b.length then (match goI (num (s.b.take 2)).toNat (s.b.drop 2) with
    | (some xs, r) => (xs, ⟨r, 0⟩)
    | (none, r) => ([], ⟨r, 8⟩)) else ([], ⟨s.b, 8⟩)) else ([], s)

theorem clos40 (l : List UInt8) (e : Int) (x : Option AV) (hx : x = none ∨ x = some CUT) (v : AV) (G : List AO) :
    DCall Try.prog 72 [.ref 2 0 0, .ref 1 0 0] x (RB l e :: .box [.ref 0 0 0] :: .box [v] :: G) fun H' => ∃ G', H' = RB l (if x = none then e else if e = 0 then 8 else e) :: .box [.ref 0 0 0] :: .box [if x = none then v else .nils] :: (G ++ G') := by
  refine dcall_rec (ccr := cc72003) (N := 9) (t := 3) (s := 2) is69.mix Try.func72 (fn := Try.f72) rfl (by kernel_rfl) rfl rfl (by kernel_rfl) (by kernel_rfl) (by omega) (by omega) rfl rfl rfl rfl rfl (by kernel_rfl) (by simp) rfl ?_
  unfold cc72003
  rcases hx with rfl | rfl
  · simp -implicitDefEqProofs (maxSteps := 500000) (disch := first | decide | omega) only [↓preS, ↓reduceIte, allS, Nat.reduceBEq, Nat.reduceAdd, Nat.reduceEqDiff, reduceIte, Int.reduceToNat, Int.reduceLE, Int.reduceLT, Nat.reduceLeDiff, Nat.reduceMul, Nat.reducePow, Nat.reduceLT, Int.reduceBEq, Int.reduceBNe, Int.reduceAdd, Int.reduceSub, Int.reduceMul, Int.reduceGT, Int.reduceGE, decS, Int.reduceNe, Int.reduceEq, recV, partOf]
    refine ACall.to (caught_at l e none (.inl rfl) (i := 0) rfl) ?_
    rintro y H' ⟨rfl, G', rfl⟩
    simp -implicitDefEqProofs (maxSteps := 500000) (disch := first | decide | omega) only [↓preS, ↓reduceIte, allS, Nat.reduceBEq, Nat.reduceAdd, Nat.reduceEqDiff, reduceIte, Int.reduceToNat, Int.reduceLE, Int.reduceLT, Nat.reduceLeDiff, Nat.reduceMul, Nat.reducePow, Nat.reduceLT, Int.reduceBEq, Int.reduceBNe, Int.reduceAdd, Int.reduceSub, Int.reduceMul, Int.reduceGT, Int.reduceGE, decS, Int.reduceNe, Int.reduceEq, RB]
    exact ⟨G', rfl⟩
  · simp -implicitDefEqProofs (maxSteps := 500000) (disch := first | decide | omega) only [↓preS, ↓reduceIte, allS, Nat.reduceBEq, Nat.reduceAdd, Nat.reduceEqDiff, reduceIte, Int.reduceToNat, Int.reduceLE, Int.reduceLT, Nat.reduceLeDiff, Nat.reduceMul, Nat.reducePow, Nat.reduceLT, Int.reduceBEq, Int.reduceBNe, Int.reduceAdd, Int.reduceSub, Int.reduceMul, Int.reduceGT, Int.reduceGE, decS, Int.reduceNe, Int.reduceEq, recV, CUT, partOf]
    refine ACall.to (caught_at l e (some CUT) (.inr rfl) (i := 0) rfl) ?_
    rintro y H' ⟨rfl, G', rfl⟩
    simp -implicitDefEqProofs (maxSteps := 500000) (disch := first | decide | omega) only [↓preS, ↓reduceIte, allS, Nat.reduceBEq, Nat.reduceAdd, Nat.reduceEqDiff, reduceIte, Int.reduceToNat, Int.reduceLE, Int.reduceLT, Nat.reduceLeDiff, Nat.reduceMul, Nat.reducePow, Nat.reduceLT, Int.reduceBEq, Int.reduceBNe, Int.reduceAdd, Int.reduceSub, Int.reduceMul, Int.reduceGT, Int.reduceGE, decS, Int.reduceNe, Int.reduceEq, RB]
    exact ⟨G', rfl⟩

theorem goI_len : ∀ (n : Nat) (l : List UInt8), (goI n l).2.length ≤ l.length
  | 0, l => Nat.le_refl _
  | n + 1, l => by
    unfold goI
    split
    · have := goI_len n (l.drop 8)
      split <;> rename_i heq <;> rw [heq] at this <;> simp at this ⊢ <;> omega
    · exact Nat.le_refl _

theorem loop25 (n : Nat) (hn : n < 65536) (l : List UInt8) (hl : l.length < 2 ^ 62) (Q : AE → St → Prop)
    (h1 : ∀ xs r, goI n l = (some xs, r) → Q .normal ⟨[(2, .ref 2 0 0)], [RB r 0, .box [.ref 0 0 0], .box [.own 3 1 0 xs.length], .arr 1 (xs.map I64)]⟩)
    (h2 : ∀ r, goI n l = (none, r) → ∀ (v : AV) (G : List AO) (rg : Regs), rg.get 2 = .ref 2 0 0 → Q (.pan CUT) ⟨rg, RB r 0 :: .box [.ref 0 0 0] :: .box [v] :: G⟩) :
    aw Try.prog cc49002L0 Q ⟨[(1, .ref 1 0 0), (2, .ref 2 0 0), (10, .int .i64 (n : Int)), (11, .int .i64 0)], [RB l 0, .box [.ref 0 0 0], .box [.nils]]⟩ := by
  unfold cc49002L0
  simp -implicitDefEqProofs (maxSteps := 500000) (disch := first | decide | omega) only [↓preS, ↓reduceIte, allS, Nat.reduceBEq, Nat.reduceAdd, Nat.reduceEqDiff, reduceIte, Int.reduceToNat, Int.reduceLE, Int.reduceLT, Nat.reduceLeDiff, Nat.reduceMul, Nat.reducePow, Nat.reduceLT, Int.reduceBEq, Int.reduceBNe, Int.reduceAdd, Int.reduceSub, Int.reduceMul, Int.reduceGT, Int.reduceGE, decS, Int.reduceNe, Int.reduceEq]
  refine aw_loopS (σ := Nat × List Int × List UInt8) (fun i => ⟨[(1, .ref 1 0 0), (2, .ref 2 0 0), (10, .int .i64 (n : Int)), (11, .int .i64 (i.1 : Int))], [RB i.2.2 0, .box [.ref 0 0 0], .box [.own 3 1 0 i.2.1.length], .arr 1 (i.2.1.map I64)]⟩)
    (fun i => i.1 ≤ n ∧ i.2.1.length = i.1 ∧ i.2.2.length ≤ l.length ∧ goI n l = (match goI (n - i.1) i.2.2 with
      | (some ys, r) => (some (i.2.1 ++ ys), r)
      | (none, r) => (none, r))) (fun i => n - i.1) (0, [], l) ?_ ⟨by simp, rfl, Nat.le_refl _, by
        simp only [Nat.sub_zero, List.nil_append]
        split <;> rename_i heq <;> rw [heq]⟩ ?_
  · simp only [RB]
    (refine Sub.ofL [some 0, some 1, some 2, none] rfl (by simp) (by decide) (by simp [partL, AO.ro, AV.ro, AV.roL, names, AO.empty, SB, U8, SI, I64, STR]) (by simp [AO.bo, AV.bo, AV.boL, names]) ?_ <;> (try simp only [List.map_cons, List.map_nil, regsL, AV.ro, AV.roL, AV.bo, AV.boL, names, get_here, get_there, Nat.reduceBEq, List.getD_cons_zero, List.getD_cons_succ, List.getD_nil, and_true, true_and, Nat.reduceLT, List.length_cons, List.length_nil, Nat.reduceAdd, decide_true, Option.isSome_some, Bool.true_or, Bool.and_self, Option.isSome_none, Bool.false_or, beq_self_eq_true, wk0_self, wk0_nils]) <;> (try and_intros) <;> (first | done | rfl | exact .inl rfl | exact .inr ⟨rfl, _, _, rfl⟩ | (simp; done) | (simp; omega) | (refine .inl ?_; simp; done) | (refine .inl ?_; simp; omega)))
  rintro ⟨k, xs, rest⟩ ⟨hk, hxl, hrl, hgo⟩
  simp only at hk hxl hrl hgo
  unfold cc49002l0
  simp -implicitDefEqProofs (maxSteps := 500000) (disch := first | decide | omega) only [↓preS, ↓reduceIte, allS, Nat.reduceBEq, Nat.reduceAdd, Nat.reduceEqDiff, reduceIte, Int.reduceToNat, Int.reduceLE, Int.reduceLT, Nat.reduceLeDiff, Nat.reduceMul, Nat.reducePow, Nat.reduceLT, Int.reduceBEq, Int.reduceBNe, Int.reduceAdd, Int.reduceSub, Int.reduceMul, Int.reduceGT, Int.reduceGE, decS, Int.reduceNe, Int.reduceEq]
  refine cK_split (fun hb => ?_) (fun hb => ?_)
  · simp (disch := omega) only [decide_eq_true_eq, decide_eq_false_iff_not, wrap_i64, beq_iff_eq, bne_iff_ne, beq_eq_false_iff_ne, bne_eq_false_iff_eq, Bool.not_eq_true, Bool.not_eq_false, eq_u32, ne_u32] at hb
    have hgk : n - k = (n - (k + 1)) + 1 := by omega
    simp -implicitDefEqProofs (maxSteps := 500000) (disch := first | decide | omega) only [↓preS, ↓reduceIte, allS, Nat.reduceBEq, Nat.reduceAdd, Nat.reduceEqDiff, reduceIte, Int.reduceToNat, Int.reduceLE, Int.reduceLT, Nat.reduceLeDiff, Nat.reduceMul, Nat.reducePow, Nat.reduceLT, Int.reduceBEq, Int.reduceBNe, Int.reduceAdd, Int.reduceSub, Int.reduceMul, Int.reduceGT, Int.reduceGE, decS, Int.reduceNe, Int.reduceEq, RB, partOf]
    refine ⟨?_, ?_, ?_⟩
    · refine acK_obj (number_ok rest 0 8 (by omega)) rfl rfl rfl rfl rfl ?_ ?_
      · rintro y Hr ⟨g1, rfl, rfl⟩
        rw [hgk] at hgo
        simp only [goI, g1, if_true] at hgo
        have hgo2 : goI n l = match goI (n - (k + 1)) (rest.drop 8) with
            | (some ys, r) => (some ((xs ++ [num (rest.take 8)]) ++ ys), r)
            | (none, r) => (none, r) := by
          rw [hgo]
          cases hq : goI (n - (k + 1)) (rest.drop 8) with
          | mk a b => cases a <;> simp
        simp -implicitDefEqProofs (maxSteps := 500000) (disch := first | decide | omega) only [↓preS, ↓reduceIte, allS, Nat.reduceBEq, Nat.reduceAdd, Nat.reduceEqDiff, reduceIte, Int.reduceToNat, Int.reduceLE, Int.reduceLT, Nat.reduceLeDiff, Nat.reduceMul, Nat.reducePow, Nat.reduceLT, Int.reduceBEq, Int.reduceBNe, Int.reduceAdd, Int.reduceSub, Int.reduceMul, Int.reduceGT, Int.reduceGE, decS, Int.reduceNe, Int.reduceEq, AV.ren, AV.renL, spl_one, RB, AO.ren, partOf]
        refine ⟨⟨by omega, by omega⟩, (k + 1, xs ++ [num (rest.take 8)], rest.drop 8), ?_, ⟨by simp only; omega, by simp only [List.length_append, List.length_cons, List.length_nil]; omega, by simp only [List.length_drop]; omega, by simp only; exact hgo2⟩, by simp only; omega⟩
        simp only [RB]
        generalize num (rest.take 8) = q
        generalize rest.drop 8 = rest2
        (refine Sub.ofL [some 0, some 1, some 2, some 5] rfl (by simp) (by decide) (by simp [partL, AO.ro, AV.ro, AV.roL, names, AO.empty, SB, U8, SI, I64, STR]) (by simp [AO.bo, AV.bo, AV.boL, names]) ?_ <;> (try simp only [List.map_cons, List.map_nil, regsL, AV.ro, AV.roL, AV.bo, AV.boL, names, get_here, get_there, Nat.reduceBEq, List.getD_cons_zero, List.getD_cons_succ, List.getD_nil, and_true, true_and, Nat.reduceLT, List.length_cons, List.length_nil, Nat.reduceAdd, decide_true, Option.isSome_some, Bool.true_or, Bool.and_self, Option.isSome_none, Bool.false_or, beq_self_eq_true, wk0_self, wk0_nils]) <;> (try and_intros) <;> (first | done | rfl | exact .inl rfl | exact .inr ⟨rfl, _, _, rfl⟩ | (simp; done) | (simp; omega) | (refine .inl ?_; simp; done) | (refine .inl ?_; simp; omega)))
      · rintro y Hr ⟨g1, rfl, rfl⟩
        have g2 : ¬ 8 ≤ rest.length := by omega
        rw [hgk] at hgo
        simp only [goI, g2, if_false] at hgo
        simp -implicitDefEqProofs (maxSteps := 500000) (disch := first | decide | omega) only [↓preS, ↓reduceIte, allS, Nat.reduceBEq, Nat.reduceAdd, Nat.reduceEqDiff, reduceIte, Int.reduceToNat, Int.reduceLE, Int.reduceLT, Nat.reduceLeDiff, Nat.reduceMul, Nat.reducePow, Nat.reduceLT, Int.reduceBEq, Int.reduceBNe, Int.reduceAdd, Int.reduceSub, Int.reduceMul, Int.reduceGT, Int.reduceGE, decS, Int.reduceNe, Int.reduceEq, AV.ren, AV.renL, spl_one, RB, AO.ren, CUT]
        exact h2 rest hgo _ _ _ rfl
    · refine acK_obj (number_ok rest 0 8 (by omega)) rfl rfl rfl rfl rfl ?_ ?_
      · rintro y Hr ⟨g1, rfl, rfl⟩
        rw [hgk] at hgo
        simp only [goI, g1, if_true] at hgo
        have hgo2 : goI n l = match goI (n - (k + 1)) (rest.drop 8) with
            | (some ys, r) => (some ((xs ++ [num (rest.take 8)]) ++ ys), r)
            | (none, r) => (none, r) := by
          rw [hgo]
          cases hq : goI (n - (k + 1)) (rest.drop 8) with
          | mk a b => cases a <;> simp
        simp -implicitDefEqProofs (maxSteps := 500000) (disch := first | decide | omega) only [↓preS, ↓reduceIte, allS, Nat.reduceBEq, Nat.reduceAdd, Nat.reduceEqDiff, reduceIte, Int.reduceToNat, Int.reduceLE, Int.reduceLT, Nat.reduceLeDiff, Nat.reduceMul, Nat.reducePow, Nat.reduceLT, Int.reduceBEq, Int.reduceBNe, Int.reduceAdd, Int.reduceSub, Int.reduceMul, Int.reduceGT, Int.reduceGE, decS, Int.reduceNe, Int.reduceEq, AV.ren, AV.renL, spl_one, RB, AO.ren, partOf]
        refine ⟨⟨by omega, by omega⟩, (k + 1, xs ++ [num (rest.take 8)], rest.drop 8), ?_, ⟨by simp only; omega, by simp only [List.length_append, List.length_cons, List.length_nil]; omega, by simp only [List.length_drop]; omega, by simp only; exact hgo2⟩, by simp only; omega⟩
        simp only [RB]
        generalize num (rest.take 8) = q
        generalize rest.drop 8 = rest2
        (refine Sub.ofL [some 0, some 1, some 2, some 5] rfl (by simp) (by decide) (by simp [partL, AO.ro, AV.ro, AV.roL, names, AO.empty, SB, U8, SI, I64, STR]) (by simp [AO.bo, AV.bo, AV.boL, names]) ?_ <;> (try simp only [List.map_cons, List.map_nil, regsL, AV.ro, AV.roL, AV.bo, AV.boL, names, get_here, get_there, Nat.reduceBEq, List.getD_cons_zero, List.getD_cons_succ, List.getD_nil, and_true, true_and, Nat.reduceLT, List.length_cons, List.length_nil, Nat.reduceAdd, decide_true, Option.isSome_some, Bool.true_or, Bool.and_self, Option.isSome_none, Bool.false_or, beq_self_eq_true, wk0_self, wk0_nils]) <;> (try and_intros) <;> (first | done | rfl | exact .inl rfl | exact .inr ⟨rfl, _, _, rfl⟩ | (simp; done) | (simp; omega) | (refine .inl ?_; simp; done) | (refine .inl ?_; simp; omega)))
      · rintro y Hr ⟨g1, rfl, rfl⟩
        have g2 : ¬ 8 ≤ rest.length := by omega
        rw [hgk] at hgo
        simp only [goI, g2, if_false] at hgo
        simp -implicitDefEqProofs (maxSteps := 500000) (disch := first | decide | omega) only [↓preS, ↓reduceIte, allS, Nat.reduceBEq, Nat.reduceAdd, Nat.reduceEqDiff, reduceIte, Int.reduceToNat, Int.reduceLE, Int.reduceLT, Nat.reduceLeDiff, Nat.reduceMul, Nat.reducePow, Nat.reduceLT, Int.reduceBEq, Int.reduceBNe, Int.reduceAdd, Int.reduceSub, Int.reduceMul, Int.reduceGT, Int.reduceGE, decS, Int.reduceNe, Int.reduceEq, AV.ren, AV.renL, spl_one, RB, AO.ren, CUT]
        exact h2 rest hgo _ _ _ rfl
    · refine acK_obj (number_ok rest 0 8 (by omega)) rfl rfl rfl rfl rfl ?_ ?_
      · rintro y Hr ⟨g1, rfl, rfl⟩
        rw [hgk] at hgo
        simp only [goI, g1, if_true] at hgo
        have hgo2 : goI n l = match goI (n - (k + 1)) (rest.drop 8) with
            | (some ys, r) => (some ((xs ++ [num (rest.take 8)]) ++ ys), r)
            | (none, r) => (none, r) := by
          rw [hgo]
          cases hq : goI (n - (k + 1)) (rest.drop 8) with
          | mk a b => cases a <;> simp
        simp -implicitDefEqProofs (maxSteps := 500000) (disch := first | decide | omega) only [↓preS, ↓reduceIte, allS, Nat.reduceBEq, Nat.reduceAdd, Nat.reduceEqDiff, reduceIte, Int.reduceToNat, Int.reduceLE, Int.reduceLT, Nat.reduceLeDiff, Nat.reduceMul, Nat.reducePow, Nat.reduceLT, Int.reduceBEq, Int.reduceBNe, Int.reduceAdd, Int.reduceSub, Int.reduceMul, Int.reduceGT, Int.reduceGE, decS, Int.reduceNe, Int.reduceEq, AV.ren, AV.renL, spl_one, RB, AO.ren, partOf]
        refine ⟨⟨by omega, by omega⟩, (k + 1, xs ++ [num (rest.take 8)], rest.drop 8), ?_, ⟨by simp only; omega, by simp only [List.length_append, List.length_cons, List.length_nil]; omega, by simp only [List.length_drop]; omega, by simp only; exact hgo2⟩, by simp only; omega⟩
        simp only [RB]
        generalize num (rest.take 8) = q
        generalize rest.drop 8 = rest2
        (refine Sub.ofL [some 0, some 1, some 2, some 5] rfl (by simp) (by decide) (by simp [partL, AO.ro, AV.ro, AV.roL, names, AO.empty, SB, U8, SI, I64, STR]) (by simp [AO.bo, AV.bo, AV.boL, names]) ?_ <;> (try simp only [List.map_cons, List.map_nil, regsL, AV.ro, AV.roL, AV.bo, AV.boL, names, get_here, get_there, Nat.reduceBEq, List.getD_cons_zero, List.getD_cons_succ, List.getD_nil, and_true, true_and, Nat.reduceLT, List.length_cons, List.length_nil, Nat.reduceAdd, decide_true, Option.isSome_some, Bool.true_or, Bool.and_self, Option.isSome_none, Bool.false_or, beq_self_eq_true, wk0_self, wk0_nils]) <;> (try and_intros) <;> (first | done | rfl | exact .inl rfl | exact .inr ⟨rfl, _, _, rfl⟩ | (simp; done) | (simp; omega) | (refine .inl ?_; simp; done) | (refine .inl ?_; simp; omega)))
      · rintro y Hr ⟨g1, rfl, rfl⟩
        have g2 : ¬ 8 ≤ rest.length := by omega
        rw [hgk] at hgo
        simp only [goI, g2, if_false] at hgo
        simp -implicitDefEqProofs (maxSteps := 500000) (disch := first | decide | omega) only [↓preS, ↓reduceIte, allS, Nat.reduceBEq, Nat.reduceAdd, Nat.reduceEqDiff, reduceIte, Int.reduceToNat, Int.reduceLE, Int.reduceLT, Nat.reduceLeDiff, Nat.reduceMul, Nat.reducePow, Nat.reduceLT, Int.reduceBEq, Int.reduceBNe, Int.reduceAdd, Int.reduceSub, Int.reduceMul, Int.reduceGT, Int.reduceGE, decS, Int.reduceNe, Int.reduceEq, AV.ren, AV.renL, spl_one, RB, AO.ren, CUT]
        exact h2 rest hgo _ _ _ rfl
  · simp (disch := omega) only [decide_eq_true_eq, decide_eq_false_iff_not, wrap_i64, beq_iff_eq, bne_iff_ne, beq_eq_false_iff_ne, bne_eq_false_iff_eq, Bool.not_eq_true, Bool.not_eq_false, eq_u32, ne_u32] at hb
    simp -implicitDefEqProofs (maxSteps := 500000) (disch := first | decide | omega) only [↓preS, ↓reduceIte, allS, Nat.reduceBEq, Nat.reduceAdd, Nat.reduceEqDiff, reduceIte, Int.reduceToNat, Int.reduceLE, Int.reduceLT, Nat.reduceLeDiff, Nat.reduceMul, Nat.reducePow, Nat.reduceLT, Int.reduceBEq, Int.reduceBNe, Int.reduceAdd, Int.reduceSub, Int.reduceMul, Int.reduceGT, Int.reduceGE, decS, Int.reduceNe, Int.reduceEq]
    have : k = n := by omega
    subst this
    simp only [Nat.sub_self, goI, List.append_nil] at hgo
    exact h1 _ _ hgo
end Go.Proofs.Ytgpipheibnlkhaa
