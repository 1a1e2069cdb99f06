/- What functions of the program compute. No condition. -/
import Derived.Test.YtgpipheibnlkhaaWRe
set_option linter.unusedSimpArgs false
set_option linter.unusedVariables false
namespace Go.Proofs.Ytgpipheibnlkhaa
open Go Go.Ab

theorem goI_snoc : ∀ (k : Nat) (l : List UInt8) (xs : List Int), goI k l = (some xs, l.drop (8 * k)) → 8 * (k + 1) ≤ l.length → goI (k + 1) l = (some (xs ++ [num ((l.drop (8 * k)).take 8)]), l.drop (8 * (k + 1)))
  | 0, l, xs, h, hl => by
    simp only [goI, Prod.mk.injEq, Option.some.injEq] at h
    rw [← h.1]
    simp only [goI]
    rw [if_pos (by omega)]
    rfl
  | k + 1, l, xs, h, hl => by
    have h8 : 8 ≤ l.length := by omega
    rw [goI, if_pos h8] at h
    rw [goI, if_pos h8]
    have e1 : l.drop (8 * (k + 1)) = (l.drop 8).drop (8 * k) := by rw [List.drop_drop]; congr 1; omega
    have e2 : l.drop (8 * (k + 1 + 1)) = (l.drop 8).drop (8 * (k + 1)) := by rw [List.drop_drop]; congr 1; omega
    cases hq : goI k (l.drop 8) with
    | mk a r =>
      rw [hq] at h
      cases a with
      | none => simp at h
      | some ys =>
        simp only [Prod.mk.injEq, Option.some.injEq] at h
        obtain ⟨rfl, rfl⟩ := h
        rw [goI_snoc k (l.drop 8) ys (by rw [hq, e1]) (by rw [List.length_drop]; omega), e1, e2]
        rfl

theorem goI_full : ∀ (n : Nat) (l : List UInt8), 8 * n ≤ l.length → ∃ xs, goI n l = (some xs, l.drop (8 * n))
  | 0, l, _ => ⟨[], rfl⟩
  | n + 1, l, h => by
    obtain ⟨xs, hx⟩ := goI_full n l (by omega)
    exact ⟨_, goI_snoc n l xs hx h⟩

def intsX (s : RS) : List Int × RS :=
  if s.e = 0 then (if 2 ≤ s.b.length then (if 8 * (num (s.b.take 2)).toNat ≤ (s.b.drop 2).length then (((goI (num (s.b.take 2)).toNat (s.b.drop 2)).1).getD [], ⟨(s.b.drop 2).drop (8 * (num (s.b.take 2)).toNat), 0⟩) else ([], ⟨s.b.drop 2, 8⟩)) else ([], ⟨s.b, 8⟩)) else ([], s)

/-- Two Readers that are alike: the same error; where there is none, the same is left. -/
def Like (a b : RS) : Prop := a.e = b.e ∧ (a.e = 0 → a.b = b.b)

theorem like_ints {a b : RS} (h : Like a b) : (intsR a).1 = (intsX b).1 ∧ Like (intsR a).2 (intsX b).2 := by
  obtain ⟨l, e⟩ := a
  obtain ⟨m, f⟩ := b
  obtain ⟨h1, h2⟩ := h
  simp only at h1 h2
  subst h1
  by_cases he : e = 0
  · subst he
    have := h2 rfl
    subst this
    by_cases hn : 2 ≤ l.length
    · by_cases hk : 8 * (num (l.take 2)).toNat ≤ (l.drop 2).length
      · obtain ⟨xs, hx⟩ := goI_full _ _ hk
        simp only [intsR, intsX, if_true, hn, hk, hx]
        exact ⟨rfl, rfl, fun _ => rfl⟩
      · have hx := goI_none (num (l.take 2)).toNat (l.drop 2) (by omega)
        simp only [intsR, intsX, if_true, hn, hk, if_false]
        cases hq : goI (num (l.take 2)).toNat (l.drop 2) with
        | mk a r =>
          rw [hq] at hx
          simp only at hx
          subst hx
          exact ⟨rfl, rfl, fun h => absurd h (by simp)⟩
    · simp only [intsR, intsX, if_true, hn, if_false]
      exact ⟨trivial, rfl, fun _ => rfl⟩
  · simp only [intsR, intsX, he, if_false]
    exact ⟨trivial, rfl, h2⟩

theorem loop26 (B : List UInt8) (hB : B.length < 2 ^ 62) (m : List UInt8) (hm : Suf B ⟨m, 0⟩) (n : Nat) (hn : n < 65536) (hl : 8 * n ≤ m.length) (Q : AE → St → Prop)
    (h : ∀ xs, goI n m = (some xs, m.drop (8 * n)) → Q .normal ⟨[(4, .own 1 1 0 xs.length)], [XS B ⟨m.drop (8 * n), 0⟩, .arr 1 (xs.map I64)]⟩) :
    aw Try.prog cc61L0 Q ⟨[(0, .ref 0 0 0), (3, .int .i64 (n : Int)), (4, .nils), (5, .int .i64 0)], [XS B ⟨m, 0⟩]⟩ := by
  unfold cc61L0
  simp -implicitDefEqProofs (maxSteps := 500000) (disch := first | decide | omega) only [↓preS, ↓reduceIte, allS, Nat.reduceBEq, Nat.reduceAdd, Nat.reduceEqDiff, reduceIte, Int.reduceToNat, Int.reduceLE, Int.reduceLT, Nat.reduceLeDiff, Nat.reduceMul, Nat.reducePow, Nat.reduceLT, Int.reduceBEq, Int.reduceBNe, Int.reduceAdd, Int.reduceSub, Int.reduceMul, Int.reduceGT, Int.reduceGE, decS, Int.reduceNe, Int.reduceEq]
  refine aw_loopS (σ := Nat × List Int) (fun i => ⟨[(0, .ref 0 0 0), (3, .int .i64 (n : Int)), (4, .own 1 1 0 i.2.length), (5, .int .i64 (i.1 : Int))], [XS B ⟨m.drop (8 * i.1), 0⟩, .arr 1 (i.2.map I64)]⟩)
    (fun i => i.1 ≤ n ∧ i.2.length = i.1 ∧ goI i.1 m = (some i.2, m.drop (8 * i.1))) (fun i => n - i.1) (0, []) ?_ ⟨by simp, rfl, rfl⟩ ?_
  · simp only [XS, XO]
    (refine Sub.ofL [some 0, none] rfl (by simp) (by decide) (by simp [partL, AO.ro, AV.ro, AV.roL, names, AO.empty, SB, U8, SI, I64, STR]) (by simp [AO.bo, AV.bo, AV.boL, names]) ?_ <;> (try simp only [List.map_cons, List.map_nil, regsL, AV.ro, AV.roL, AV.bo, AV.boL, names, get_here, get_there, Nat.reduceBEq, List.getD_cons_zero, List.getD_cons_succ, List.getD_nil, and_true, true_and, Nat.reduceLT, List.length_cons, List.length_nil, Nat.reduceAdd, decide_true, Option.isSome_some, Bool.true_or, Bool.and_self, Option.isSome_none, Bool.false_or, beq_self_eq_true, wk0_self, wk0_nils]) <;> (try and_intros) <;> (first | done | rfl | exact .inl rfl | exact .inr ⟨rfl, _, _, rfl⟩ | (simp; done) | (simp; omega) | (refine .inl ?_; simp; done) | (refine .inl ?_; simp; omega)))
  rintro ⟨k, xs⟩ ⟨hk, hx, hg⟩
  simp only at hk hx hg
  unfold cc61l0
  simp -implicitDefEqProofs (maxSteps := 500000) (disch := first | decide | omega) only [↓preS, ↓reduceIte, allS, Nat.reduceBEq, Nat.reduceAdd, Nat.reduceEqDiff, reduceIte, Int.reduceToNat, Int.reduceLE, Int.reduceLT, Nat.reduceLeDiff, Nat.reduceMul, Nat.reducePow, Nat.reduceLT, Int.reduceBEq, Int.reduceBNe, Int.reduceAdd, Int.reduceSub, Int.reduceMul, Int.reduceGT, Int.reduceGE, decS, Int.reduceNe, Int.reduceEq]
  refine cK_split (fun hb => ?_) (fun hb => ?_)
  · simp (disch := omega) only [decide_eq_true_eq, decide_eq_false_iff_not, wrap_i64, beq_iff_eq, bne_iff_ne, beq_eq_false_iff_ne, bne_eq_false_iff_eq, Bool.not_eq_true, Bool.not_eq_false, eq_u32, ne_u32] at hb
    simp -implicitDefEqProofs (maxSteps := 500000) (disch := first | decide | omega) only [↓preS, ↓reduceIte, allS, Nat.reduceBEq, Nat.reduceAdd, Nat.reduceEqDiff, reduceIte, Int.reduceToNat, Int.reduceLE, Int.reduceLT, Nat.reduceLeDiff, Nat.reduceMul, Nat.reducePow, Nat.reduceLT, Int.reduceBEq, Int.reduceBNe, Int.reduceAdd, Int.reduceSub, Int.reduceMul, Int.reduceGT, Int.reduceGE, decS, Int.reduceNe, Int.reduceEq]
    have c := int_x B hB ⟨m.drop (8 * k), 0⟩ (suf_drop hm (8 * k) (by simp only; omega) 0)
    have e1 : intR ⟨m.drop (8 * k), 0⟩ = (num ((m.drop (8 * k)).take 8), ⟨m.drop (8 * (k + 1)), 0⟩) := by
      have e2 : 8 ≤ (m.drop (8 * k)).length := by rw [List.length_drop]; omega
      simp only [intR, if_true, e2, List.drop_drop]
      rfl
    rw [e1] at c
    refine acK_rd c rfl (fun _ => rfl) (fun _ => rfl) rfl (fun _ => rfl) (fun _ => rfl) rfl ?_
    simp -implicitDefEqProofs (maxSteps := 500000) (disch := first | decide | omega) only [↓preS, ↓reduceIte, allS, Nat.reduceBEq, Nat.reduceAdd, Nat.reduceEqDiff, reduceIte, Int.reduceToNat, Int.reduceLE, Int.reduceLT, Nat.reduceLeDiff, Nat.reduceMul, Nat.reducePow, Nat.reduceLT, Int.reduceBEq, Int.reduceBNe, Int.reduceAdd, Int.reduceSub, Int.reduceMul, Int.reduceGT, Int.reduceGE, decS, Int.reduceNe, Int.reduceEq]
    refine ⟨⟨by omega, by omega⟩, (k + 1, xs ++ [num ((m.drop (8 * k)).take 8)]), ?_, ⟨by simp only; omega, by simp; omega, by simp only; exact goI_snoc k m xs hg (by omega)⟩, by simp only; omega⟩
    simp only [XS, XO]
    generalize num (List.take 8 (List.drop (8 * k) m)) = q
    (refine Sub.ofL [some 0, some 3] rfl (by simp) (by decide) (by simp [partL, AO.ro, AV.ro, AV.roL, names, AO.empty, SB, U8, SI, I64, STR]) (by simp [AO.bo, AV.bo, AV.boL, names]) ?_ <;> (try simp only [List.map_cons, List.map_nil, regsL, AV.ro, AV.roL, AV.bo, AV.boL, names, get_here, get_there, Nat.reduceBEq, List.getD_cons_zero, List.getD_cons_succ, List.getD_nil, and_true, true_and, Nat.reduceLT, List.length_cons, List.length_nil, Nat.reduceAdd, decide_true, Option.isSome_some, Bool.true_or, Bool.and_self, Option.isSome_none, Bool.false_or, beq_self_eq_true, wk0_self, wk0_nils]) <;> (try and_intros) <;> (first | done | rfl | exact .inl rfl | exact .inr ⟨rfl, _, _, rfl⟩ | (simp; done) | (simp; omega) | (refine .inl ?_; simp; done) | (refine .inl ?_; simp; omega)))
  · simp (disch := omega) only [decide_eq_true_eq, decide_eq_false_iff_not, wrap_i64, beq_iff_eq, bne_iff_ne, beq_eq_false_iff_ne, bne_eq_false_iff_eq, Bool.not_eq_true, Bool.not_eq_false, eq_u32, ne_u32] at hb
    simp -implicitDefEqProofs (maxSteps := 500000) (disch := first | decide | omega) only [↓preS, ↓reduceIte, allS, Nat.reduceBEq, Nat.reduceAdd, Nat.reduceEqDiff, reduceIte, Int.reduceToNat, Int.reduceLE, Int.reduceLT, Nat.reduceLeDiff, Nat.reduceMul, Nat.reducePow, Nat.reduceLT, Int.reduceBEq, Int.reduceBNe, Int.reduceAdd, Int.reduceSub, Int.reduceMul, Int.reduceGT, Int.reduceGE, decS, Int.reduceNe, Int.reduceEq]
    have : k = n := by omega
    subst this
    exact h xs hg

theorem ints_x (B : List UInt8) (hB : B.length < 2 ^ 62) (s : RS) (hs : Suf B s) : ACall Try.prog 61 [.ref 0 0 0] [XS B s] fun y H' => y = .own 1 1 0 (intsX s).1.length ∧ H' = [XS B (intsX s).2, .arr 1 ((intsX s).1.map I64)] := by
  have key : ACall Try.prog 61 [.ref 0 0 0] [XS B s] fun y H' => (y = .nils ∧ (intsX s).1 = [] ∧ H' = [XS B (intsX s).2]) ∨ (y = .own 1 1 0 (intsX s).1.length ∧ H' = [XS B (intsX s).2, .arr 1 ((intsX s).1.map I64)]) := by
    refine acall_at is61 (by simp) rfl ?_
    unfold cc61
    simp -implicitDefEqProofs (maxSteps := 500000) (disch := first | decide | omega) only [↓preS, ↓reduceIte, allS, Nat.reduceBEq, Nat.reduceAdd, Nat.reduceEqDiff, reduceIte, Int.reduceToNat, Int.reduceLE, Int.reduceLT, Nat.reduceLeDiff, Nat.reduceMul, Nat.reducePow, Nat.reduceLT, Int.reduceBEq, Int.reduceBNe, Int.reduceAdd, Int.reduceSub, Int.reduceMul, Int.reduceGT, Int.reduceGE, decS, Int.reduceNe, Int.reduceEq]
    refine ACall.to (two_x B hB s hs) ?_
    rintro y G ⟨rfl, rfl⟩
    obtain ⟨l, e⟩ := s
    by_cases he : e = 0
    · subst he
      by_cases hn : 2 ≤ l.length
      · obtain ⟨n, hn2, hn3⟩ := num_two (l.take 2) (by simp; omega)
        have h1 : twoR ⟨l, 0⟩ = ((n : Int), ⟨l.drop 2, 0⟩) := by simp [twoR, hn, hn2]
        have hs2 : Suf B ⟨l.drop 2, 0⟩ := suf_drop hs 2 hn 0
        rw [h1]
        have e8 : 8 * (n : Int) = ((8 * n : Nat) : Int) := by omega
        simp -implicitDefEqProofs (maxSteps := 500000) (disch := first | decide | omega) only [↓preS, ↓reduceIte, allS, Nat.reduceBEq, Nat.reduceAdd, Nat.reduceEqDiff, reduceIte, Int.reduceToNat, Int.reduceLE, Int.reduceLT, Nat.reduceLeDiff, Nat.reduceMul, Nat.reducePow, Nat.reduceLT, Int.reduceBEq, Int.reduceBNe, Int.reduceAdd, Int.reduceSub, Int.reduceMul, Int.reduceGT, Int.reduceGE, decS, Int.reduceNe, Int.reduceEq, e8]
        refine ACall.to (has_ok B hB _ hs2 (8 * n)) ?_
        rintro y G ⟨rfl, rfl⟩
        by_cases hk : 8 * n ≤ (l.drop 2).length
        · have h3 : hasR ⟨l.drop 2, 0⟩ (8 * n) = (true, ⟨l.drop 2, 0⟩) := by simp only [hasR, hk, if_true]
          rw [h3]
          simp -implicitDefEqProofs (maxSteps := 500000) (disch := first | decide | omega) only [↓preS, ↓reduceIte, allS, Nat.reduceBEq, Nat.reduceAdd, Nat.reduceEqDiff, reduceIte, Int.reduceToNat, Int.reduceLE, Int.reduceLT, Nat.reduceLeDiff, Nat.reduceMul, Nat.reducePow, Nat.reduceLT, Int.reduceBEq, Int.reduceBNe, Int.reduceAdd, Int.reduceSub, Int.reduceMul, Int.reduceGT, Int.reduceGE, decS, Int.reduceNe, Int.reduceEq]
          refine loop26 B hB (l.drop 2) hs2 n hn3 hk _ fun xs hx => ?_
          simp -implicitDefEqProofs (maxSteps := 500000) (disch := first | decide | omega) only [↓preS, ↓reduceIte, allS, Nat.reduceBEq, Nat.reduceAdd, Nat.reduceEqDiff, reduceIte, Int.reduceToNat, Int.reduceLE, Int.reduceLT, Nat.reduceLeDiff, Nat.reduceMul, Nat.reducePow, Nat.reduceLT, Int.reduceBEq, Int.reduceBNe, Int.reduceAdd, Int.reduceSub, Int.reduceMul, Int.reduceGT, Int.reduceGE, decS, Int.reduceNe, Int.reduceEq]
          right
          simp only [intsX, if_true, hn, hn2, Int.toNat_natCast, hk, hx]
          exact ⟨rfl, rfl⟩
        · have h3 : hasR ⟨l.drop 2, 0⟩ (8 * n) = (false, ⟨l.drop 2, 8⟩) := by simp only [hasR, hk, if_true, if_false]
          rw [h3]
          simp -implicitDefEqProofs (maxSteps := 500000) (disch := first | decide | omega) only [↓preS, ↓reduceIte, allS, Nat.reduceBEq, Nat.reduceAdd, Nat.reduceEqDiff, reduceIte, Int.reduceToNat, Int.reduceLE, Int.reduceLT, Nat.reduceLeDiff, Nat.reduceMul, Nat.reducePow, Nat.reduceLT, Int.reduceBEq, Int.reduceBNe, Int.reduceAdd, Int.reduceSub, Int.reduceMul, Int.reduceGT, Int.reduceGE, decS, Int.reduceNe, Int.reduceEq]
          left
          simp only [intsX, if_true, hn, hn2, Int.toNat_natCast, hk, if_false]
          exact ⟨by trivial, by trivial⟩
      · have h1 : twoR ⟨l, 0⟩ = (((0 : Nat) : Int), ⟨l, 8⟩) := by simp [twoR, hn]
        rw [h1]
        simp -implicitDefEqProofs (maxSteps := 500000) (disch := first | decide | omega) only [↓preS, ↓reduceIte, allS, Nat.reduceBEq, Nat.reduceAdd, Nat.reduceEqDiff, reduceIte, Int.reduceToNat, Int.reduceLE, Int.reduceLT, Nat.reduceLeDiff, Nat.reduceMul, Nat.reducePow, Nat.reduceLT, Int.reduceBEq, Int.reduceBNe, Int.reduceAdd, Int.reduceSub, Int.reduceMul, Int.reduceGT, Int.reduceGE, decS, Int.reduceNe, Int.reduceEq]
        refine ACall.to (has_ok B hB ⟨l, 8⟩ hs 0) ?_
        rintro y G ⟨rfl, rfl⟩
        have h3 : hasR ⟨l, 8⟩ 0 = (false, ⟨l, 8⟩) := by simp [hasR]
        rw [h3]
        simp -implicitDefEqProofs (maxSteps := 500000) (disch := first | decide | omega) only [↓preS, ↓reduceIte, allS, Nat.reduceBEq, Nat.reduceAdd, Nat.reduceEqDiff, reduceIte, Int.reduceToNat, Int.reduceLE, Int.reduceLT, Nat.reduceLeDiff, Nat.reduceMul, Nat.reducePow, Nat.reduceLT, Int.reduceBEq, Int.reduceBNe, Int.reduceAdd, Int.reduceSub, Int.reduceMul, Int.reduceGT, Int.reduceGE, decS, Int.reduceNe, Int.reduceEq]
        left
        simp only [intsX, if_true, hn, if_false]
        exact ⟨by trivial, by trivial⟩
    · have h1 : twoR ⟨l, e⟩ = (((0 : Nat) : Int), ⟨l, e⟩) := by simp [twoR, he]
      rw [h1]
      simp -implicitDefEqProofs (maxSteps := 500000) (disch := first | decide | omega) only [↓preS, ↓reduceIte, allS, Nat.reduceBEq, Nat.reduceAdd, Nat.reduceEqDiff, reduceIte, Int.reduceToNat, Int.reduceLE, Int.reduceLT, Nat.reduceLeDiff, Nat.reduceMul, Nat.reducePow, Nat.reduceLT, Int.reduceBEq, Int.reduceBNe, Int.reduceAdd, Int.reduceSub, Int.reduceMul, Int.reduceGT, Int.reduceGE, decS, Int.reduceNe, Int.reduceEq]
      refine ACall.to (has_ok B hB ⟨l, e⟩ hs 0) ?_
      rintro y G ⟨rfl, rfl⟩
      have h3 : hasR ⟨l, e⟩ 0 = (false, ⟨l, e⟩) := by simp [hasR, he]
      rw [h3]
      simp -implicitDefEqProofs (maxSteps := 500000) (disch := first | decide | omega) only [↓preS, ↓reduceIte, allS, Nat.reduceBEq, Nat.reduceAdd, Nat.reduceEqDiff, reduceIte, Int.reduceToNat, Int.reduceLE, Int.reduceLT, Nat.reduceLeDiff, Nat.reduceMul, Nat.reducePow, Nat.reduceLT, Int.reduceBEq, Int.reduceBNe, Int.reduceAdd, Int.reduceSub, Int.reduceMul, Int.reduceGT, Int.reduceGE, decS, Int.reduceNe, Int.reduceEq]
      left
      simp only [intsX, he, if_false]
      exact ⟨by trivial, by trivial⟩
  refine key.sub ?_
  rintro y G (⟨rfl, h1, rfl⟩ | ⟨rfl, rfl⟩)
  · rw [h1]
    refine ⟨_, _, ?_, rfl, rfl⟩
    simp only [XS, XO]
    (refine Sub.ofL [some 0, none] rfl (by simp) (by decide) (by simp [partL, AO.ro, AV.ro, AV.roL, names, AO.empty, SB, U8, SI, I64, STR]) (by simp [AO.bo, AV.bo, AV.boL, names]) ?_ <;> (try simp only [List.map_cons, List.map_nil, regsL, AV.ro, AV.roL, AV.bo, AV.boL, names, get_here, get_there, Nat.reduceBEq, List.getD_cons_zero, List.getD_cons_succ, List.getD_nil, and_true, true_and, Nat.reduceLT, List.length_cons, List.length_nil, Nat.reduceAdd, decide_true, Option.isSome_some, Bool.true_or, Bool.and_self, Option.isSome_none, Bool.false_or, beq_self_eq_true, wk0_self, wk0_nils]) <;> (try and_intros) <;> (first | done | rfl | exact .inl rfl | exact .inr ⟨rfl, _, _, rfl⟩ | (simp; done) | (simp; omega) | (refine .inl ?_; simp; done) | (refine .inl ?_; simp; omega)))
  · exact ⟨_, _, .inl rfl, rfl, rfl⟩
end Go.Proofs.Ytgpipheibnlkhaa
