/- What functions of the program compute. No condition. -/
import Derived.Test.YtgpipheibnlkhaaWH
set_option linter.unusedSimpArgs false
set_option linter.unusedVariables false
namespace Go.Proofs.Ytgpipheibnlkhaa
open Go Go.Ab

def invN (b : List UInt8) (t : Bool) (l : List Int) (i : Nat) : St :=
  if i = 0 then ⟨[(0, .own 0 1 0 b.length), (1, .sl t 1 (l.map I64)), (5, .int .i64 0)], [.arr 1 (b.map U8)]⟩
  else ⟨[(0, .own 1 1 0 (b ++ ints (l.take i)).length), (1, .sl t 1 (l.map I64)), (5, .int .i64 (i : Int))], [.dead, .arr 1 ((b ++ ints (l.take i)).map U8)]⟩

theorem ints_snoc (b : List UInt8) (l : List Int) (k : Nat) (hk : k < l.length) : b ++ ints (l.take (k + 1)) = b ++ ints (l.take k) ++ be 8 (l.getD k default) := by
  unfold ints
  rw [fmt l (be 8) k hk, List.append_assoc]

theorem xnums_ok (t : Bool) (b : List UInt8) (l : List Int) (hb : b.length + 8 * l.length ≤ 2 ^ 39) (hl : 0 < l.length) : ACall Try.prog 42 [.own 0 1 0 b.length, .sl t 1 (l.map I64)] [.arr 1 (b.map U8)] fun y G => y = .own 1 1 0 (b ++ ints l).length ∧ G = [.dead, .arr 1 ((b ++ ints l).map U8)] := by
  refine acall_at is42 (by simp) rfl ?_
  unfold cc42
  simp -implicitDefEqProofs (maxSteps := 500000) (disch := first | decide | omega) only [↓preS, ↓reduceIte, allS, pickK, nilckK, binK, beqK, cvsK, slK, bndK, slsK, fadK, fldK, iaaK, ixsK, ixaK, extK, lensK, isiK, tasK, st0K, ldpK, lenlK, caplK, mmaK, bldK, ldK, bxK, stoK, stK, blsK, mksK, appK, apzK, apsK, calvK, calvD, cvbK, csbK, sk, notSl, killOf, frzI, AV.ids, AV.ids1, AV.ids2, initR, Nat.reduceBEq, Nat.reduceAdd, Nat.reduceEqDiff, panK, retQ, retQP, resAV, reduceIte, Int.reduceToNat, Int.reduceLE, Int.reduceLT, Nat.reduceLeDiff, rdS, AV.fz, AV.fz1, AV.fz2, Nat.reduceMul, Nat.reducePow, Nat.reduceLT, AV.el, fillEl, Int.reduceBEq, Int.reduceBNe, Int.reduceAdd, Int.reduceSub, Int.reduceMul, Int.reduceGT, Int.reduceGE, decS, Int.reduceNe, Int.reduceEq]
  unfold cc42L0
  simp -implicitDefEqProofs (maxSteps := 500000) (disch := first | decide | omega) only [↓preS, ↓reduceIte, allS, pickK, nilckK, binK, beqK, cvsK, slK, bndK, slsK, fadK, fldK, iaaK, ixsK, ixaK, extK, lensK, isiK, tasK, st0K, ldpK, lenlK, caplK, mmaK, bldK, ldK, bxK, stoK, stK, blsK, mksK, appK, apzK, apsK, calvK, calvD, cvbK, csbK, sk, notSl, killOf, frzI, AV.ids, AV.ids1, AV.ids2, initR, Nat.reduceBEq, Nat.reduceAdd, Nat.reduceEqDiff, panK, retQ, retQP, resAV, reduceIte, Int.reduceToNat, Int.reduceLE, Int.reduceLT, Nat.reduceLeDiff, rdS, AV.fz, AV.fz1, AV.fz2, Nat.reduceMul, Nat.reducePow, Nat.reduceLT, AV.el, fillEl, Int.reduceBEq, Int.reduceBNe, Int.reduceAdd, Int.reduceSub, Int.reduceMul, Int.reduceGT, Int.reduceGE, decS, Int.reduceNe, Int.reduceEq]
  refine aw_loopS (σ := Nat) (invN b t l) (fun i => i ≤ l.length) (fun i => l.length - i) 0 (.inl rfl) (by simp) ?_
  intro k hk
  unfold cc42l0
  have hlk : (ints (l.take k)).length = 8 * k := by rw [ints_len, List.length_take]; omega
  have fin : invN b t l (k + 1) = ⟨[(0, .own 1 1 0 (b ++ ints (l.take (k + 1))).length), (1, .sl t 1 (l.map I64)), (5, .int .i64 ((k + 1 : Nat) : Int))], [.dead, .arr 1 ((b ++ ints (l.take (k + 1))).map U8)]⟩ := rfl
  by_cases hk8 : k < l.length
  · have s1 := ints_snoc b l k hk8
    by_cases hk0 : k = 0
    · subst hk0
      have e : invN b t l 0 = ⟨[(0, .own 0 1 0 b.length), (1, .sl t 1 (l.map I64)), (5, .int .i64 ((0 : Nat) : Int))], [.arr 1 (b.map U8)]⟩ := rfl
      have s2 : b ++ ints (l.take (0 + 1)) = b ++ be 8 (l.getD 0 default) := by rw [s1]; simp [ints]
      rw [e]
      simp -implicitDefEqProofs (maxSteps := 500000) (disch := first | decide | omega) only [↓preS, ↓reduceIte, allS, pickK, nilckK, binK, beqK, cvsK, slK, bndK, slsK, fadK, fldK, iaaK, ixsK, ixaK, extK, lensK, isiK, tasK, st0K, ldpK, lenlK, caplK, mmaK, bldK, ldK, bxK, stoK, stK, blsK, mksK, appK, apzK, apsK, calvK, calvD, cvbK, csbK, sk, notSl, killOf, frzI, AV.ids, AV.ids1, AV.ids2, initR, Nat.reduceBEq, Nat.reduceAdd, Nat.reduceEqDiff, panK, retQ, retQP, resAV, reduceIte, Int.reduceToNat, Int.reduceLE, Int.reduceLT, Nat.reduceLeDiff, rdS, AV.fz, AV.fz1, AV.fz2, Nat.reduceMul, Nat.reducePow, Nat.reduceLT, AV.el, fillEl, Int.reduceBEq, Int.reduceBNe, Int.reduceAdd, Int.reduceSub, Int.reduceMul, Int.reduceGT, Int.reduceGE, decS, Int.reduceNe, Int.reduceEq, I64]
      refine ⟨by omega, ?_⟩
      refine acK_arr (xint_ok b (l.getD 0 default) (by omega)) rfl rfl rfl ?_
      simp -implicitDefEqProofs (maxSteps := 500000) (disch := first | decide | omega) only [↓preS, ↓reduceIte, allS, pickK, nilckK, binK, beqK, cvsK, slK, bndK, slsK, fadK, fldK, iaaK, ixsK, ixaK, extK, lensK, isiK, tasK, st0K, ldpK, lenlK, caplK, mmaK, bldK, ldK, bxK, stoK, stK, blsK, mksK, appK, apzK, apsK, calvK, calvD, cvbK, csbK, sk, notSl, killOf, frzI, AV.ids, AV.ids1, AV.ids2, initR, Nat.reduceBEq, Nat.reduceAdd, Nat.reduceEqDiff, panK, retQ, retQP, resAV, reduceIte, Int.reduceToNat, Int.reduceLE, Int.reduceLT, Nat.reduceLeDiff, rdS, AV.fz, AV.fz1, AV.fz2, Nat.reduceMul, Nat.reducePow, Nat.reduceLT, AV.el, fillEl, Int.reduceBEq, Int.reduceBNe, Int.reduceAdd, Int.reduceSub, Int.reduceMul, Int.reduceGT, Int.reduceGE, decS, Int.reduceNe, Int.reduceEq]
      refine ⟨1, ?_, by omega, by omega⟩
      show Ab.Sub _ _ (invN b t l (0 + 1))
      rw [fin, s2]
      simp only [← List.length_append]
      generalize (b ++ be 8 (l.getD 0 default)).map U8 = q
      generalize (b ++ be 8 (l.getD 0 default)).length = n
      (refine Sub.ofL [some 0, some 1] rfl (by simp) (by decide) (by simp [partL, AO.ro, AV.ro, AV.roL, names, AO.empty, SB, U8, SI, I64, STR]) (by simp [AO.bo, AV.bo, AV.boL, names]) ?_ <;> (try simp only [List.map_cons, List.map_nil, regsL, AV.ro, AV.roL, AV.bo, AV.boL, names, get_here, get_there, Nat.reduceBEq, List.getD_cons_zero, List.getD_cons_succ, List.getD_nil, and_true, true_and, Nat.reduceLT, List.length_cons, List.length_nil, Nat.reduceAdd, decide_true, Option.isSome_some, Bool.true_or, Bool.and_self, Option.isSome_none, Bool.false_or, beq_self_eq_true, wk0_self, wk0_nils]) <;> (try and_intros) <;> (first | done | rfl | exact .inl rfl | exact .inr ⟨rfl, _, _, rfl⟩ | (simp; done) | (simp; omega) | (refine .inl ?_; simp; done) | (refine .inl ?_; simp; omega)))
    · have e : invN b t l k = ⟨[(0, .own 1 1 0 (b ++ ints (l.take k)).length), (1, .sl t 1 (l.map I64)), (5, .int .i64 (k : Int))], [.dead, .arr 1 ((b ++ ints (l.take k)).map U8)]⟩ := if_neg hk0
      rw [e]
      have x := xint_ok (b ++ ints (l.take k)) (l.getD k default) (by rw [List.length_append, hlk]; omega)
      rw [← s1] at x
      generalize b ++ ints (l.take (k + 1)) = w at x fin
      generalize b ++ ints (l.take k) = u at x
      simp -implicitDefEqProofs (maxSteps := 500000) (disch := first | decide | omega) only [↓preS, ↓reduceIte, allS, pickK, nilckK, binK, beqK, cvsK, slK, bndK, slsK, fadK, fldK, iaaK, ixsK, ixaK, extK, lensK, isiK, tasK, st0K, ldpK, lenlK, caplK, mmaK, bldK, ldK, bxK, stoK, stK, blsK, mksK, appK, apzK, apsK, calvK, calvD, cvbK, csbK, sk, notSl, killOf, frzI, AV.ids, AV.ids1, AV.ids2, initR, Nat.reduceBEq, Nat.reduceAdd, Nat.reduceEqDiff, panK, retQ, retQP, resAV, reduceIte, Int.reduceToNat, Int.reduceLE, Int.reduceLT, Nat.reduceLeDiff, rdS, AV.fz, AV.fz1, AV.fz2, Nat.reduceMul, Nat.reducePow, Nat.reduceLT, AV.el, fillEl, Int.reduceBEq, Int.reduceBNe, Int.reduceAdd, Int.reduceSub, Int.reduceMul, Int.reduceGT, Int.reduceGE, decS, Int.reduceNe, Int.reduceEq, I64]
      refine ⟨by omega, by omega, ?_⟩
      refine acK_arr x rfl rfl rfl ?_
      simp -implicitDefEqProofs (maxSteps := 500000) (disch := first | decide | omega) only [↓preS, ↓reduceIte, allS, pickK, nilckK, binK, beqK, cvsK, slK, bndK, slsK, fadK, fldK, iaaK, ixsK, ixaK, extK, lensK, isiK, tasK, st0K, ldpK, lenlK, caplK, mmaK, bldK, ldK, bxK, stoK, stK, blsK, mksK, appK, apzK, apsK, calvK, calvD, cvbK, csbK, sk, notSl, killOf, frzI, AV.ids, AV.ids1, AV.ids2, initR, Nat.reduceBEq, Nat.reduceAdd, Nat.reduceEqDiff, panK, retQ, retQP, resAV, reduceIte, Int.reduceToNat, Int.reduceLE, Int.reduceLT, Nat.reduceLeDiff, rdS, AV.fz, AV.fz1, AV.fz2, Nat.reduceMul, Nat.reducePow, Nat.reduceLT, AV.el, fillEl, Int.reduceBEq, Int.reduceBNe, Int.reduceAdd, Int.reduceSub, Int.reduceMul, Int.reduceGT, Int.reduceGE, decS, Int.reduceNe, Int.reduceEq]
      refine ⟨k + 1, ?_, by omega, by omega⟩
      rw [fin]
      generalize w.map U8 = q
      generalize w.length = n
      (refine Sub.ofL [some 0, some 2] rfl (by simp) (by decide) (by simp [partL, AO.ro, AV.ro, AV.roL, names, AO.empty, SB, U8, SI, I64, STR]) (by simp [AO.bo, AV.bo, AV.boL, names]) ?_ <;> (try simp only [List.map_cons, List.map_nil, regsL, AV.ro, AV.roL, AV.bo, AV.boL, names, get_here, get_there, Nat.reduceBEq, List.getD_cons_zero, List.getD_cons_succ, List.getD_nil, and_true, true_and, Nat.reduceLT, List.length_cons, List.length_nil, Nat.reduceAdd, decide_true, Option.isSome_some, Bool.true_or, Bool.and_self, Option.isSome_none, Bool.false_or, beq_self_eq_true, wk0_self, wk0_nils]) <;> (try and_intros) <;> (first | done | rfl | exact .inl rfl | exact .inr ⟨rfl, _, _, rfl⟩ | (simp; done) | (simp; omega) | (refine .inl ?_; simp; done) | (refine .inl ?_; simp; omega)))
  · have hk9 : k = l.length := by omega
    subst hk9
    have e : invN b t l l.length = ⟨[(0, .own 1 1 0 (b ++ ints l).length), (1, .sl t 1 (l.map I64)), (5, .int .i64 (l.length : Int))], [.dead, .arr 1 ((b ++ ints l).map U8)]⟩ := by
      unfold invN
      rw [if_neg (by omega), List.take_length]
    rw [e]
    simp -implicitDefEqProofs (maxSteps := 500000) (disch := first | decide | omega) only [↓preS, ↓reduceIte, allS, pickK, nilckK, binK, beqK, cvsK, slK, bndK, slsK, fadK, fldK, iaaK, ixsK, ixaK, extK, lensK, isiK, tasK, st0K, ldpK, lenlK, caplK, mmaK, bldK, ldK, bxK, stoK, stK, blsK, mksK, appK, apzK, apsK, calvK, calvD, cvbK, csbK, sk, notSl, killOf, frzI, AV.ids, AV.ids1, AV.ids2, initR, Nat.reduceBEq, Nat.reduceAdd, Nat.reduceEqDiff, panK, retQ, retQP, resAV, reduceIte, Int.reduceToNat, Int.reduceLE, Int.reduceLT, Nat.reduceLeDiff, rdS, AV.fz, AV.fz1, AV.fz2, Nat.reduceMul, Nat.reducePow, Nat.reduceLT, AV.el, fillEl, Int.reduceBEq, Int.reduceBNe, Int.reduceAdd, Int.reduceSub, Int.reduceMul, Int.reduceGT, Int.reduceGE, decS, Int.reduceNe, Int.reduceEq]

theorem two_bytes (n : Nat) : be 2 (n : Int) = [by64 n 8, by64 n 0] := by simp [be, bep, List.range_succ]
theorem by8 (n : Nat) : (BitVec.ofInt 8 ((n : Int).fdiv (2 ^ min 8 64))).toNat = (by64 n 8).toNat := byx n 6 (by omega)
theorem by0 (n : Nat) : (BitVec.ofInt 8 (n : Int)).toNat = (by64 n 0).toNat := by
  have := byx n 7 (by omega)
  simpa using this

theorem xtext_ok (b s : List UInt8) (hb : b.length ≤ 2 ^ 40) (hs : s.length < 2 ^ 63) : ACall Try.prog 41 [.own 0 1 0 b.length, .str s] [.arr 1 (b.map U8)] fun y G => y = .own 1 1 0 (b ++ textL s).length ∧ G = [.dead, .arr 1 ((b ++ textL s).map U8)] := by
  have key : ACall Try.prog 41 [.own 0 1 0 b.length, .str s] [.arr 1 (b.map U8)] fun y G => ∃ x z q n, (y = .own 3 1 0 n ∧ G = [.dead, x, z, .arr 1 q]) ∧ n = b.length + (textL s).length ∧ q = (b ++ textL s).map U8 := by
    refine acall_at is41 (by simp) rfl ?_
    unfold cc41
    simp -implicitDefEqProofs (maxSteps := 500000) (disch := first | decide | omega) only [↓preS, ↓reduceIte, allS, pickK, nilckK, binK, beqK, cvsK, slK, bndK, slsK, fadK, fldK, iaaK, ixsK, ixaK, extK, lensK, isiK, tasK, st0K, ldpK, lenlK, caplK, mmaK, bldK, ldK, bxK, stoK, stK, blsK, mksK, appK, apzK, apsK, calvK, calvD, cvbK, csbK, sk, notSl, killOf, frzI, AV.ids, AV.ids1, AV.ids2, initR, Nat.reduceBEq, Nat.reduceAdd, Nat.reduceEqDiff, panK, retQ, retQP, resAV, reduceIte, Int.reduceToNat, Int.reduceLE, Int.reduceLT, Nat.reduceLeDiff, rdS, AV.fz, AV.fz1, AV.fz2, Nat.reduceMul, Nat.reducePow, Nat.reduceLT, AV.el, fillEl, Int.reduceBEq, Int.reduceBNe, Int.reduceAdd, Int.reduceSub, Int.reduceMul, Int.reduceGT, Int.reduceGE, decS, Int.reduceNe, Int.reduceEq, mm_nat, take_cap]
    have et : textL s = [by64 ((min 65535 s.length : Nat) : Int) 8, by64 ((min 65535 s.length : Nat) : Int) 0] ++ s.take 65535 := by
      unfold textL
      rw [List.length_take, two_bytes]
    have el : (textL s).length = 2 + min 65535 s.length := by rw [et, List.length_append, List.length_take]; rfl
    refine ⟨by omega, by omega, by omega, ⟨by omega, by omega⟩, ⟨by omega, by omega⟩, _, _, _, _, ⟨rfl, rfl⟩, ?_, ?_⟩
    · rw [el]
      omega
    · rw [by8, by0, et, List.take_of_length_le (by simp)]
      simp only [List.map_append, List.map_cons, List.map_nil, U8, List.append_assoc]
      rfl
  refine key.sub ?_
  rintro y G ⟨x, z, q, n, ⟨rfl, rfl⟩, h1, h2⟩
  rw [List.length_append, ← h1, ← h2]
  refine ⟨_, _, ?_, rfl, rfl⟩
  (refine Sub.ofL [some 0, some 3] rfl (by simp) (by decide) (by simp [partL, AO.ro, AV.ro, AV.roL, names, AO.empty, SB, U8, SI, I64, STR]) (by simp [AO.bo, AV.bo, AV.boL, names]) ?_ <;> (try simp only [List.map_cons, List.map_nil, regsL, AV.ro, AV.roL, AV.bo, AV.boL, names, get_here, get_there, Nat.reduceBEq, List.getD_cons_zero, List.getD_cons_succ, List.getD_nil, and_true, true_and, Nat.reduceLT, List.length_cons, List.length_nil, Nat.reduceAdd, decide_true, Option.isSome_some, Bool.true_or, Bool.and_self, Option.isSome_none, Bool.false_or, beq_self_eq_true, wk0_self, wk0_nils]) <;> (try and_intros) <;> (first | done | rfl | exact .inl rfl | exact .inr ⟨rfl, _, _, rfl⟩ | (simp; done) | (simp; omega) | (refine .inl ?_; simp; done) | (refine .inl ?_; simp; omega)))

theorem loop43 (t : Bool) (b : List UInt8) (l : List Int) (hb : b.length + 8 * l.length ≤ 2 ^ 39) (x : AO) (Q : AE → St → Prop) (h : Q .normal ⟨[(0, .own 1 1 0 (b ++ ints l).length)], [.dead, .arr 1 ((b ++ ints l).map U8)]⟩) :
    aw Try.prog cc43L0 Q ⟨[(0, .own 2 1 0 b.length), (1, .sl t 1 (l.map I64)), (5, .int .i64 0)], [.dead, x, .arr 1 (b.map U8)]⟩ := by
  unfold cc43L0
  simp -implicitDefEqProofs (maxSteps := 500000) (disch := first | decide | omega) only [↓preS, ↓reduceIte, allS, pickK, nilckK, binK, beqK, cvsK, slK, bndK, slsK, fadK, fldK, iaaK, ixsK, ixaK, extK, lensK, isiK, tasK, st0K, ldpK, lenlK, caplK, mmaK, bldK, ldK, bxK, stoK, stK, blsK, mksK, appK, apzK, apsK, calvK, calvD, cvbK, csbK, sk, notSl, killOf, frzI, AV.ids, AV.ids1, AV.ids2, initR, Nat.reduceBEq, Nat.reduceAdd, Nat.reduceEqDiff, panK, retQ, retQP, resAV, reduceIte, Int.reduceToNat, Int.reduceLE, Int.reduceLT, Nat.reduceLeDiff, rdS, AV.fz, AV.fz1, AV.fz2, Nat.reduceMul, Nat.reducePow, Nat.reduceLT, AV.el, fillEl, Int.reduceBEq, Int.reduceBNe, Int.reduceAdd, Int.reduceSub, Int.reduceMul, Int.reduceGT, Int.reduceGE, decS, Int.reduceNe, Int.reduceEq]
  refine aw_loopS (σ := Nat) (fun i => ⟨[(0, .own 1 1 0 (b ++ ints (l.take i)).length), (1, .sl t 1 (l.map I64)), (5, .int .i64 (i : Int))], [.dead, .arr 1 ((b ++ ints (l.take i)).map U8)]⟩) (fun i => i ≤ l.length) (fun i => l.length - i) 0 ?_ (by simp) ?_
  · have e : b ++ ints (l.take 0) = b := by simp [ints]
    rw [e]
    generalize b.map U8 = q
    generalize b.length = n
    (refine Sub.ofL [some 0, some 2] rfl (by simp) (by decide) (by simp [partL, AO.ro, AV.ro, AV.roL, names, AO.empty, SB, U8, SI, I64, STR]) (by simp [AO.bo, AV.bo, AV.boL, names]) ?_ <;> (try simp only [List.map_cons, List.map_nil, regsL, AV.ro, AV.roL, AV.bo, AV.boL, names, get_here, get_there, Nat.reduceBEq, List.getD_cons_zero, List.getD_cons_succ, List.getD_nil, and_true, true_and, Nat.reduceLT, List.length_cons, List.length_nil, Nat.reduceAdd, decide_true, Option.isSome_some, Bool.true_or, Bool.and_self, Option.isSome_none, Bool.false_or, beq_self_eq_true, wk0_self, wk0_nils]) <;> (try and_intros) <;> (first | done | rfl | exact .inl rfl | exact .inr ⟨rfl, _, _, rfl⟩ | (simp; done) | (simp; omega) | (refine .inl ?_; simp; done) | (refine .inl ?_; simp; omega)))
  intro k hk
  unfold cc43l0
  have hlk : (ints (l.take k)).length = 8 * k := by rw [ints_len, List.length_take]; omega
  by_cases hk8 : k < l.length
  · have s1 := ints_snoc b l k hk8
    have x := xint_ok (b ++ ints (l.take k)) (l.getD k default) (by rw [List.length_append, hlk]; omega)
    have fin : ∀ w : List UInt8, w = b ++ ints (l.take (k + 1)) → ∃ j, Ab.Sub 1 ⟨[(0, .own 2 1 0 w.length), (1, .sl t 1 (l.map I64)), (5, .int .i64 ((k : Int) + 1))], [.dead, .dead, .arr 1 (w.map U8)]⟩ ⟨[(0, .own 1 1 0 (b ++ ints (l.take j)).length), (1, .sl t 1 (l.map I64)), (5, .int .i64 (j : Int))], [.dead, .arr 1 ((b ++ ints (l.take j)).map U8)]⟩ ∧ j ≤ l.length ∧ l.length - j < l.length - k := by
      intro w hw
      refine ⟨k + 1, ?_, by omega, by omega⟩
      rw [← hw]
      generalize w.map U8 = q
      generalize w.length = n
      (refine Sub.ofL [some 0, some 2] rfl (by simp) (by decide) (by simp [partL, AO.ro, AV.ro, AV.roL, names, AO.empty, SB, U8, SI, I64, STR]) (by simp [AO.bo, AV.bo, AV.boL, names]) ?_ <;> (try simp only [List.map_cons, List.map_nil, regsL, AV.ro, AV.roL, AV.bo, AV.boL, names, get_here, get_there, Nat.reduceBEq, List.getD_cons_zero, List.getD_cons_succ, List.getD_nil, and_true, true_and, Nat.reduceLT, List.length_cons, List.length_nil, Nat.reduceAdd, decide_true, Option.isSome_some, Bool.true_or, Bool.and_self, Option.isSome_none, Bool.false_or, beq_self_eq_true, wk0_self, wk0_nils]) <;> (try and_intros) <;> (first | done | rfl | exact .inl rfl | exact .inr ⟨rfl, _, _, rfl⟩ | (simp; done) | (simp; omega) | (refine .inl ?_; simp; done) | (refine .inl ?_; simp; omega)))
    rw [← s1] at x
    generalize hu : b ++ ints (l.take k) = u at x ⊢
    generalize hw : b ++ ints (l.take (k + 1)) = w at x
    simp -implicitDefEqProofs (maxSteps := 500000) (disch := first | decide | omega) only [↓preS, ↓reduceIte, allS, pickK, nilckK, binK, beqK, cvsK, slK, bndK, slsK, fadK, fldK, iaaK, ixsK, ixaK, extK, lensK, isiK, tasK, st0K, ldpK, lenlK, caplK, mmaK, bldK, ldK, bxK, stoK, stK, blsK, mksK, appK, apzK, apsK, calvK, calvD, cvbK, csbK, sk, notSl, killOf, frzI, AV.ids, AV.ids1, AV.ids2, initR, Nat.reduceBEq, Nat.reduceAdd, Nat.reduceEqDiff, panK, retQ, retQP, resAV, reduceIte, Int.reduceToNat, Int.reduceLE, Int.reduceLT, Nat.reduceLeDiff, rdS, AV.fz, AV.fz1, AV.fz2, Nat.reduceMul, Nat.reducePow, Nat.reduceLT, AV.el, fillEl, Int.reduceBEq, Int.reduceBNe, Int.reduceAdd, Int.reduceSub, Int.reduceMul, Int.reduceGT, Int.reduceGE, decS, Int.reduceNe, Int.reduceEq, I64]
    refine ⟨by omega, by omega, ?_⟩
    refine acK_arr x rfl rfl rfl ?_
    simp -implicitDefEqProofs (maxSteps := 500000) (disch := first | decide | omega) only [↓preS, ↓reduceIte, allS, pickK, nilckK, binK, beqK, cvsK, slK, bndK, slsK, fadK, fldK, iaaK, ixsK, ixaK, extK, lensK, isiK, tasK, st0K, ldpK, lenlK, caplK, mmaK, bldK, ldK, bxK, stoK, stK, blsK, mksK, appK, apzK, apsK, calvK, calvD, cvbK, csbK, sk, notSl, killOf, frzI, AV.ids, AV.ids1, AV.ids2, initR, Nat.reduceBEq, Nat.reduceAdd, Nat.reduceEqDiff, panK, retQ, retQP, resAV, reduceIte, Int.reduceToNat, Int.reduceLE, Int.reduceLT, Nat.reduceLeDiff, rdS, AV.fz, AV.fz1, AV.fz2, Nat.reduceMul, Nat.reducePow, Nat.reduceLT, AV.el, fillEl, Int.reduceBEq, Int.reduceBNe, Int.reduceAdd, Int.reduceSub, Int.reduceMul, Int.reduceGT, Int.reduceGE, decS, Int.reduceNe, Int.reduceEq]
    have f := fin w hw.symm
    simp only [List.length_append] at f ⊢
    exact f
  · have hk9 : k = l.length := by omega
    subst hk9
    rw [List.take_length]
    generalize b ++ ints l = u at h ⊢
    simp -implicitDefEqProofs (maxSteps := 500000) (disch := first | decide | omega) only [↓preS, ↓reduceIte, allS, pickK, nilckK, binK, beqK, cvsK, slK, bndK, slsK, fadK, fldK, iaaK, ixsK, ixaK, extK, lensK, isiK, tasK, st0K, ldpK, lenlK, caplK, mmaK, bldK, ldK, bxK, stoK, stK, blsK, mksK, appK, apzK, apsK, calvK, calvD, cvbK, csbK, sk, notSl, killOf, frzI, AV.ids, AV.ids1, AV.ids2, initR, Nat.reduceBEq, Nat.reduceAdd, Nat.reduceEqDiff, panK, retQ, retQP, resAV, reduceIte, Int.reduceToNat, Int.reduceLE, Int.reduceLT, Nat.reduceLeDiff, rdS, AV.fz, AV.fz1, AV.fz2, Nat.reduceMul, Nat.reducePow, Nat.reduceLT, AV.el, fillEl, Int.reduceBEq, Int.reduceBNe, Int.reduceAdd, Int.reduceSub, Int.reduceMul, Int.reduceGT, Int.reduceGE, decS, Int.reduceNe, Int.reduceEq]
    exact h

theorem xints_ok (t : Bool) (b : List UInt8) (l : List Int) (hb : b.length ≤ 2 ^ 32) (hl : l.length < 2 ^ 63) : ACall Try.prog 43 [.own 0 1 0 b.length, .sl t 1 (l.map I64)] [.arr 1 (b.map U8)] fun y G => y = .own 1 1 0 (b ++ intsL l).length ∧ G = [.dead, .arr 1 ((b ++ intsL l).map U8)] := by
  refine acall_at is43 (by simp) rfl ?_
  unfold cc43
  simp -implicitDefEqProofs (maxSteps := 500000) (disch := first | decide | omega) only [↓preS, ↓reduceIte, allS, pickK, nilckK, binK, beqK, cvsK, slK, bndK, slsK, fadK, fldK, iaaK, ixsK, ixaK, extK, lensK, isiK, tasK, st0K, ldpK, lenlK, caplK, mmaK, bldK, ldK, bxK, stoK, stK, blsK, mksK, appK, apzK, apsK, calvK, calvD, cvbK, csbK, sk, notSl, killOf, frzI, AV.ids, AV.ids1, AV.ids2, initR, Nat.reduceBEq, Nat.reduceAdd, Nat.reduceEqDiff, panK, retQ, retQP, resAV, reduceIte, Int.reduceToNat, Int.reduceLE, Int.reduceLT, Nat.reduceLeDiff, rdS, AV.fz, AV.fz1, AV.fz2, Nat.reduceMul, Nat.reducePow, Nat.reduceLT, AV.el, fillEl, Int.reduceBEq, Int.reduceBNe, Int.reduceAdd, Int.reduceSub, Int.reduceMul, Int.reduceGT, Int.reduceGE, decS, Int.reduceNe, Int.reduceEq, mm_nat, take_cap]
  refine ⟨by omega, by omega, by omega, ⟨by omega, by omega⟩, ?_⟩
  have hl3 : (l.take 65535).length = min 65535 l.length := by rw [List.length_take]
  have e1 : b.map U8 ++ [.int .u8 ((BitVec.ofInt 8 ((((min 65535 l.length : Nat) : Int)).fdiv (2 ^ min 8 64))).toNat : Int), .int .u8 ((BitVec.ofInt 8 ((min 65535 l.length : Nat) : Int)).toNat : Int)] = (b ++ be 2 ((min 65535 l.length : Nat) : Int)).map U8 := by
    rw [by8, by0, two_bytes, List.map_append]
    rfl
  have e2 : b.length + 2 = (b ++ be 2 ((min 65535 l.length : Nat) : Int)).length := by rw [List.length_append, be_len]
  have e3 : b ++ intsL l = b ++ be 2 ((min 65535 l.length : Nat) : Int) ++ ints (l.take 65535) := by
    unfold intsL ints
    rw [hl3, List.append_assoc]
  rw [e1, e2, e3]
  refine loop43 t (b ++ be 2 ((min 65535 l.length : Nat) : Int)) (l.take 65535) (by rw [List.length_append, be_len, hl3]; omega) _ _ ?_
  have e4 : b.length + (intsL l).length = (b ++ be 2 ((min 65535 l.length : Nat) : Int) ++ ints (l.take 65535)).length := by rw [← e3, List.length_append]
  generalize b ++ be 2 ((min 65535 l.length : Nat) : Int) ++ ints (l.take 65535) = w at e4
  simp -implicitDefEqProofs (maxSteps := 500000) (disch := first | decide | omega) only [↓preS, ↓reduceIte, allS, pickK, nilckK, binK, beqK, cvsK, slK, bndK, slsK, fadK, fldK, iaaK, ixsK, ixaK, extK, lensK, isiK, tasK, st0K, ldpK, lenlK, caplK, mmaK, bldK, ldK, bxK, stoK, stK, blsK, mksK, appK, apzK, apsK, calvK, calvD, cvbK, csbK, sk, notSl, killOf, frzI, AV.ids, AV.ids1, AV.ids2, initR, Nat.reduceBEq, Nat.reduceAdd, Nat.reduceEqDiff, panK, retQ, retQP, resAV, reduceIte, Int.reduceToNat, Int.reduceLE, Int.reduceLT, Nat.reduceLeDiff, rdS, AV.fz, AV.fz1, AV.fz2, Nat.reduceMul, Nat.reducePow, Nat.reduceLT, AV.el, fillEl, Int.reduceBEq, Int.reduceBNe, Int.reduceAdd, Int.reduceSub, Int.reduceMul, Int.reduceGT, Int.reduceGE, decS, Int.reduceNe, Int.reduceEq]
  rw [e4]
end Go.Proofs.Ytgpipheibnlkhaa
