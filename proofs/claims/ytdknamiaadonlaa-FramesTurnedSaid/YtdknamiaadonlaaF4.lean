/- What functions of the program compute. No condition. -/
import Derived.Test.YtdknamiaadonlaaF4Law
import Derived.Test.YtdknamiaadonlaaF6
import Derived.Test.YtdknamiaadonlaaL4
set_option linter.unusedSimpArgs false
set_option linter.unusedVariables false
namespace Go.Proofs.Ytdknamiaadonlaa
open Go Go.Ab

def off (l : List (List UInt8)) (i : Nat) : Nat := ((l.take i).flatMap frameL).length
theorem off_succ (l : List (List UInt8)) (i : Nat) (h : i < l.length) : off l (i + 1) = off l i + 8 + (l.getD i default).length := by
  unfold off
  rw [List.take_succ_eq_append_getElem h, List.flatMap_append, List.length_append, List.getD_eq_getElem?_getD, List.getElem?_eq_getElem h]
  simp [frameL_len]
  omega
theorem off_zero (l : List (List UInt8)) : off l 0 = 0 := by simp [off]
theorem off_le (l : List (List UInt8)) (i : Nat) (hi : i ≤ l.length) (hb : ∀ b ∈ l.take i, b.length ≤ 200) : off l i ≤ 208 * i := by
  induction i with
  | zero => simp [off]
  | succ i ih =>
    rw [off_succ l i (by omega)]
    have h1 := ih (by omega) fun b hb' => hb b (by rw [List.take_succ_eq_append_getElem (by omega)]; exact List.mem_append_left _ hb')
    have h2 := hb (l.getD i default) (by rw [List.take_succ_eq_append_getElem (by omega), List.getD_eq_getElem?_getD, List.getElem?_eq_getElem (by omega)]; exact List.mem_append_right _ (by simp))
    omega
theorem off_mono (l : List (List UInt8)) (i j : Nat) (h : i ≤ j) (hj : j ≤ l.length) : off l i ≤ off l j := by
  induction j with
  | zero => have : i = 0 := by omega
            subst this; omega
  | succ j ih =>
    rcases Nat.lt_or_ge i (j + 1) with h1 | h1
    · have := ih (by omega) (by omega)
      rw [off_succ l j (by omega)]
      omega
    · have : i = j + 1 := by omega
      rw [this]
      exact Nat.le_refl _

def ends (l : List (List UInt8)) (n : Nat) : List Int := (List.range n).map fun q => (off l (q + 1) : Int)
theorem ends_succ (l : List (List UInt8)) (n : Nat) : ends l (n + 1) = ends l n ++ [(off l (n + 1) : Int)] := by simp [ends, List.range_succ]
theorem ends_len (l : List (List UInt8)) (n : Nat) : (ends l n).length = n := by simp [ends]
theorem ends_get (l : List (List UInt8)) (n k : Nat) (h : k < n) : (ends l n).getD k default = (off l (k + 1) : Int) := by
  unfold ends
  rw [List.getD_eq_getElem?_getD, List.getElem?_map, List.getElem?_range h]
  rfl

theorem loop4a (l : List (List UInt8)) (a b : Int) (hl : l.length ≤ 6) (Q : AE → St → Prop) (h0 : ∀ r H, r.get 6 = .bool true → Q .ret ⟨r, H⟩) (h1 : (∀ b ∈ l, b.length ≤ 200) → Q .normal ⟨[(0, .sl false 1 (l.map SB)), (1, .int .i64 a), (2, .int .i64 b), (7, .own 0 1 0 l.length)], [.arr 1 ((ends l l.length).map I64)]⟩) :
    aw Try.prog cc4L1 Q ⟨[(0, .sl false 1 (l.map SB)), (1, .int .i64 a), (2, .int .i64 b), (7, .nils), (8, .int .i64 0), (9, .int .i64 0)], []⟩ := by
  unfold cc4L1
  simp -implicitDefEqProofs (maxSteps := 100000) (disch := first | decide | omega) only [↓preS, ↓reduceIte, postS, intS, pickK, nilckK, binK, beqK, cvsK, slK, bndK, slsK, fadK, fldK, iaaK, ixsK, ixaK, extK, lensK, lenlK, caplK, mmaK, bldK, ldK, cbs_map, cbs_nil, bxK, stoK, stK, blsK, mksK, appK, apzK, cvbK, csbK, sk, notSl, killOf, frzI, AV.ids, AV.ids1, AV.ids2, initR, List.map_cons, List.map_nil, List.flatMap_cons, List.flatMap_nil, Nat.reduceBEq, Nat.reduceAdd, Nat.reduceEqDiff, Bool.false_eq_true, Option.map_some, Option.map_none, List.length_nil, List.length_cons, List.nil_append, List.cons_append, retQ, resAV, and_true, true_and, or_true, true_or, and_self, reduceIte, Int.reduceToNat, Int.reduceLE, Int.reduceLT, Nat.reduceLeDiff, List.getElem?_cons_zero, List.getElem?_cons_succ, List.set_cons_zero, List.set_cons_succ, rdS, AV.fz, AV.fz1, AV.fz2, List.drop_zero, List.length_map, List.length_append, Nat.zero_add, Nat.add_zero, Nat.le_refl, Nat.reduceMul, Nat.reducePow, Nat.reduceLT, decide_true, decide_false, List.all_cons, List.all_nil, AV.el, celS, Bool.and_true, Bool.and_self, Bool.true_and, Bool.not_false, Bool.not_true, beq_self_eq_true, List.take_length, List.take_succ_cons, List.take_zero, List.take_nil, List.drop_succ_cons, List.drop_nil, Nat.mul_one, fillEl, List.replicate_succ, List.replicate_zero, wrap_i64, Int.sub_self, Int.sub_zero, Int.toNat_natCast, ← List.map_drop, ← List.map_take, List.length_drop, List.length_take, retQ, false_and, and_false, false_or, or_false, not_false_eq_true, not_true_eq_false, forall_const, List.getD_cons_zero, List.getD_cons_succ, Int.reduceBEq, Int.reduceBNe, Int.reduceAdd, Int.reduceSub, Int.reduceMul, Int.reduceGT, Int.reduceGE, bne_self_eq_false, List.length_replicate, ← List.map_append, decS, Int.natCast_one, Int.natCast_zero, Int.reduceNe, Int.reduceEq, Nat.min_self, Nat.sub_self]
  refine aw_loopS (σ := Nat) (fun i => ⟨[(0, .sl false 1 (l.map SB)), (1, .int .i64 a), (2, .int .i64 b), (7, .own 0 1 0 i), (8, .int .i64 (off l i : Int)), (9, .int .i64 (i : Int))], [.arr 1 ((ends l i).map I64)]⟩) (fun i => i ≤ l.length ∧ ∀ b ∈ l.take i, b.length ≤ 200) (fun i => l.length - i) 0 ?_ (by simp) ?_
  · have e : ends l 0 = [] := rfl
    rw [off_zero, e]
    (refine Sub.ofL [none] rfl (by simp) (by decide) (by simp [partL, AO.ro, AV.ro, AV.roL, names, AO.empty, SB, U8, SI, I64, STR]) (by simp [AO.bo, AV.bo, AV.boL, names]) ?_; simp only [List.map_cons, List.map_nil, regsL, AV.ro, AV.roL, AV.bo, AV.boL, names, get_here, get_there, Nat.reduceBEq, List.getD_cons_zero, List.getD_cons_succ, List.getD_nil, and_true, true_and, Nat.reduceLT, List.length_cons, List.length_nil, Nat.reduceAdd, decide_true, Option.isSome_some, Bool.true_or, Bool.and_self, Option.isSome_none, Bool.false_or, beq_self_eq_true]; (first | done | and_intros) <;> (first | rfl | (simp; done) | (simp; omega)))
  rintro k ⟨hk, hle⟩
  have hoff := off_le l k hk hle
  unfold cc4l1
  by_cases h : k < l.length
  · have hos := off_succ l k h
    simp -implicitDefEqProofs (maxSteps := 100000) (disch := first | decide | omega) only [↓preS, ↓reduceIte, postS, intS, pickK, nilckK, binK, beqK, cvsK, slK, bndK, slsK, fadK, fldK, iaaK, ixsK, ixaK, extK, lensK, lenlK, caplK, mmaK, bldK, ldK, cbs_map, cbs_nil, bxK, stoK, stK, blsK, mksK, appK, apzK, cvbK, csbK, sk, notSl, killOf, frzI, AV.ids, AV.ids1, AV.ids2, initR, List.map_cons, List.map_nil, List.flatMap_cons, List.flatMap_nil, Nat.reduceBEq, Nat.reduceAdd, Nat.reduceEqDiff, Bool.false_eq_true, Option.map_some, Option.map_none, List.length_nil, List.length_cons, List.nil_append, List.cons_append, retQ, resAV, and_true, true_and, or_true, true_or, and_self, reduceIte, Int.reduceToNat, Int.reduceLE, Int.reduceLT, Nat.reduceLeDiff, List.getElem?_cons_zero, List.getElem?_cons_succ, List.set_cons_zero, List.set_cons_succ, rdS, AV.fz, AV.fz1, AV.fz2, List.drop_zero, List.length_map, List.length_append, Nat.zero_add, Nat.add_zero, Nat.le_refl, Nat.reduceMul, Nat.reducePow, Nat.reduceLT, decide_true, decide_false, List.all_cons, List.all_nil, AV.el, celS, Bool.and_true, Bool.and_self, Bool.true_and, Bool.not_false, Bool.not_true, beq_self_eq_true, List.take_length, List.take_succ_cons, List.take_zero, List.take_nil, List.drop_succ_cons, List.drop_nil, Nat.mul_one, fillEl, List.replicate_succ, List.replicate_zero, wrap_i64, Int.sub_self, Int.sub_zero, Int.toNat_natCast, ← List.map_drop, ← List.map_take, List.length_drop, List.length_take, retQ, false_and, and_false, false_or, or_false, not_false_eq_true, not_true_eq_false, forall_const, List.getD_cons_zero, List.getD_cons_succ, Int.reduceBEq, Int.reduceBNe, Int.reduceAdd, Int.reduceSub, Int.reduceMul, Int.reduceGT, Int.reduceGE, bne_self_eq_false, List.length_replicate, ← List.map_append, decS, Int.natCast_one, Int.natCast_zero, Int.reduceNe, Int.reduceEq, Nat.min_self, Nat.sub_self]
    refine ⟨by omega, by omega, ?_⟩
    by_cases h2 : (l.getD k default).length ≤ 200
    · have hel := ends_len l k
      have e2 : (ends l k).take k = ends l k := List.take_of_length_le (by omega)
      have e4 : ((off l k : Int) + 8 + ((l.getD k default).length : Int)) = (off l (k + 1) : Int) := by omega
      have e3 : List.map I64 (ends l k) ++ [AV.int .i64 (off l (k + 1) : Int)] = List.map I64 (ends l (k + 1)) := by rw [ends_succ, List.map_append]; rfl
      simp -implicitDefEqProofs (maxSteps := 100000) (disch := first | decide | omega) only [↓preS, ↓reduceIte, postS, intS, pickK, nilckK, binK, beqK, cvsK, slK, bndK, slsK, fadK, fldK, iaaK, ixsK, ixaK, extK, lensK, lenlK, caplK, mmaK, bldK, ldK, cbs_map, cbs_nil, bxK, stoK, stK, blsK, mksK, appK, apzK, cvbK, csbK, sk, notSl, killOf, frzI, AV.ids, AV.ids1, AV.ids2, initR, List.map_cons, List.map_nil, List.flatMap_cons, List.flatMap_nil, Nat.reduceBEq, Nat.reduceAdd, Nat.reduceEqDiff, Bool.false_eq_true, Option.map_some, Option.map_none, List.length_nil, List.length_cons, List.nil_append, List.cons_append, retQ, resAV, and_true, true_and, or_true, true_or, and_self, reduceIte, Int.reduceToNat, Int.reduceLE, Int.reduceLT, Nat.reduceLeDiff, List.getElem?_cons_zero, List.getElem?_cons_succ, List.set_cons_zero, List.set_cons_succ, rdS, AV.fz, AV.fz1, AV.fz2, List.drop_zero, List.length_map, List.length_append, Nat.zero_add, Nat.add_zero, Nat.le_refl, Nat.reduceMul, Nat.reducePow, Nat.reduceLT, decide_true, decide_false, List.all_cons, List.all_nil, AV.el, celS, Bool.and_true, Bool.and_self, Bool.true_and, Bool.not_false, Bool.not_true, beq_self_eq_true, List.take_length, List.take_succ_cons, List.take_zero, List.take_nil, List.drop_succ_cons, List.drop_nil, Nat.mul_one, fillEl, List.replicate_succ, List.replicate_zero, wrap_i64, Int.sub_self, Int.sub_zero, Int.toNat_natCast, ← List.map_drop, ← List.map_take, List.length_drop, List.length_take, retQ, false_and, and_false, false_or, or_false, not_false_eq_true, not_true_eq_false, forall_const, List.getD_cons_zero, List.getD_cons_succ, Int.reduceBEq, Int.reduceBNe, Int.reduceAdd, Int.reduceSub, Int.reduceMul, Int.reduceGT, Int.reduceGE, bne_self_eq_false, List.length_replicate, ← List.map_append, decS, Int.natCast_one, Int.natCast_zero, Int.reduceNe, Int.reduceEq, Nat.min_self, Nat.sub_self, hel, e2, e4, e3]
      refine ⟨by omega, by omega, ⟨by omega, by omega⟩, k + 1, ?_, ⟨by omega, all_le (by omega) hle h2⟩, by omega⟩
      (refine Sub.ofL [some 2] rfl (by simp) (by decide) (by simp [partL, AO.ro, AV.ro, AV.roL, names, AO.empty, SB, U8, SI, I64, STR]) (by simp [AO.bo, AV.bo, AV.boL, names]) ?_; simp only [List.map_cons, List.map_nil, regsL, AV.ro, AV.roL, AV.bo, AV.boL, names, get_here, get_there, Nat.reduceBEq, List.getD_cons_zero, List.getD_cons_succ, List.getD_nil, and_true, true_and, Nat.reduceLT, List.length_cons, List.length_nil, Nat.reduceAdd, decide_true, Option.isSome_some, Bool.true_or, Bool.and_self, Option.isSome_none, Bool.false_or, beq_self_eq_true]; (first | done | and_intros) <;> (first | rfl | (simp; done) | (simp; omega)))
    · simp -implicitDefEqProofs (maxSteps := 100000) (disch := first | decide | omega) only [↓preS, ↓reduceIte, postS, intS, pickK, nilckK, binK, beqK, cvsK, slK, bndK, slsK, fadK, fldK, iaaK, ixsK, ixaK, extK, lensK, lenlK, caplK, mmaK, bldK, ldK, cbs_map, cbs_nil, bxK, stoK, stK, blsK, mksK, appK, apzK, cvbK, csbK, sk, notSl, killOf, frzI, AV.ids, AV.ids1, AV.ids2, initR, List.map_cons, List.map_nil, List.flatMap_cons, List.flatMap_nil, Nat.reduceBEq, Nat.reduceAdd, Nat.reduceEqDiff, Bool.false_eq_true, Option.map_some, Option.map_none, List.length_nil, List.length_cons, List.nil_append, List.cons_append, retQ, resAV, and_true, true_and, or_true, true_or, and_self, reduceIte, Int.reduceToNat, Int.reduceLE, Int.reduceLT, Nat.reduceLeDiff, List.getElem?_cons_zero, List.getElem?_cons_succ, List.set_cons_zero, List.set_cons_succ, rdS, AV.fz, AV.fz1, AV.fz2, List.drop_zero, List.length_map, List.length_append, Nat.zero_add, Nat.add_zero, Nat.le_refl, Nat.reduceMul, Nat.reducePow, Nat.reduceLT, decide_true, decide_false, List.all_cons, List.all_nil, AV.el, celS, Bool.and_true, Bool.and_self, Bool.true_and, Bool.not_false, Bool.not_true, beq_self_eq_true, List.take_length, List.take_succ_cons, List.take_zero, List.take_nil, List.drop_succ_cons, List.drop_nil, Nat.mul_one, fillEl, List.replicate_succ, List.replicate_zero, wrap_i64, Int.sub_self, Int.sub_zero, Int.toNat_natCast, ← List.map_drop, ← List.map_take, List.length_drop, List.length_take, retQ, false_and, and_false, false_or, or_false, not_false_eq_true, not_true_eq_false, forall_const, List.getD_cons_zero, List.getD_cons_succ, Int.reduceBEq, Int.reduceBNe, Int.reduceAdd, Int.reduceSub, Int.reduceMul, Int.reduceGT, Int.reduceGE, bne_self_eq_false, List.length_replicate, ← List.map_append, decS, Int.natCast_one, Int.natCast_zero, Int.reduceNe, Int.reduceEq, Nat.min_self, Nat.sub_self]
      exact h0 _ _ rfl
  · simp -implicitDefEqProofs (maxSteps := 100000) (disch := first | decide | omega) only [↓preS, ↓reduceIte, postS, intS, pickK, nilckK, binK, beqK, cvsK, slK, bndK, slsK, fadK, fldK, iaaK, ixsK, ixaK, extK, lensK, lenlK, caplK, mmaK, bldK, ldK, cbs_map, cbs_nil, bxK, stoK, stK, blsK, mksK, appK, apzK, cvbK, csbK, sk, notSl, killOf, frzI, AV.ids, AV.ids1, AV.ids2, initR, List.map_cons, List.map_nil, List.flatMap_cons, List.flatMap_nil, Nat.reduceBEq, Nat.reduceAdd, Nat.reduceEqDiff, Bool.false_eq_true, Option.map_some, Option.map_none, List.length_nil, List.length_cons, List.nil_append, List.cons_append, retQ, resAV, and_true, true_and, or_true, true_or, and_self, reduceIte, Int.reduceToNat, Int.reduceLE, Int.reduceLT, Nat.reduceLeDiff, List.getElem?_cons_zero, List.getElem?_cons_succ, List.set_cons_zero, List.set_cons_succ, rdS, AV.fz, AV.fz1, AV.fz2, List.drop_zero, List.length_map, List.length_append, Nat.zero_add, Nat.add_zero, Nat.le_refl, Nat.reduceMul, Nat.reducePow, Nat.reduceLT, decide_true, decide_false, List.all_cons, List.all_nil, AV.el, celS, Bool.and_true, Bool.and_self, Bool.true_and, Bool.not_false, Bool.not_true, beq_self_eq_true, List.take_length, List.take_succ_cons, List.take_zero, List.take_nil, List.drop_succ_cons, List.drop_nil, Nat.mul_one, fillEl, List.replicate_succ, List.replicate_zero, wrap_i64, Int.sub_self, Int.sub_zero, Int.toNat_natCast, ← List.map_drop, ← List.map_take, List.length_drop, List.length_take, retQ, false_and, and_false, false_or, or_false, not_false_eq_true, not_true_eq_false, forall_const, List.getD_cons_zero, List.getD_cons_succ, Int.reduceBEq, Int.reduceBNe, Int.reduceAdd, Int.reduceSub, Int.reduceMul, Int.reduceGT, Int.reduceGE, bne_self_eq_false, List.length_replicate, ← List.map_append, decS, Int.natCast_one, Int.natCast_zero, Int.reduceNe, Int.reduceEq, Nat.min_self, Nat.sub_self]
    have : k = l.length := by omega
    subst this
    rw [List.take_length] at hle
    exact h1 hle
theorem loop4b (l : List (List UInt8)) (a d e : AV) (k : Nat) (hl : l.length ≤ 6) (hk : k < off l l.length) (H0 : List AO) (id : Nat) (hid : H0[id]? = some (.arr 1 ((ends l l.length).map I64))) (Q : AE → St → Prop)
    (h1 : ∀ hit, hit < l.length → off l hit ≤ k → k < off l (hit + 1) → Q .normal ⟨[(0, a), (2, d), (7, .own id 1 0 l.length), (10, e), (11, .int .i64 k), (12, .int .i64 hit)], H0⟩) :
    aw Try.prog cc4L0 Q ⟨[(0, a), (2, d), (7, .own id 1 0 l.length), (10, e), (11, .int .i64 k), (12, .int .i64 0)], H0⟩ := by
  unfold cc4L0
  simp -implicitDefEqProofs (maxSteps := 100000) (disch := first | decide | omega) only [↓preS, ↓reduceIte, postS, intS, pickK, nilckK, binK, beqK, cvsK, slK, bndK, slsK, fadK, fldK, iaaK, ixsK, ixaK, extK, lensK, lenlK, caplK, mmaK, bldK, ldK, cbs_map, cbs_nil, bxK, stoK, stK, blsK, mksK, appK, apzK, cvbK, csbK, sk, notSl, killOf, frzI, AV.ids, AV.ids1, AV.ids2, initR, List.map_cons, List.map_nil, List.flatMap_cons, List.flatMap_nil, Nat.reduceBEq, Nat.reduceAdd, Nat.reduceEqDiff, Bool.false_eq_true, Option.map_some, Option.map_none, List.length_nil, List.length_cons, List.nil_append, List.cons_append, retQ, resAV, and_true, true_and, or_true, true_or, and_self, reduceIte, Int.reduceToNat, Int.reduceLE, Int.reduceLT, Nat.reduceLeDiff, List.getElem?_cons_zero, List.getElem?_cons_succ, List.set_cons_zero, List.set_cons_succ, rdS, AV.fz, AV.fz1, AV.fz2, List.drop_zero, List.length_map, List.length_append, Nat.zero_add, Nat.add_zero, Nat.le_refl, Nat.reduceMul, Nat.reducePow, Nat.reduceLT, decide_true, decide_false, List.all_cons, List.all_nil, AV.el, celS, Bool.and_true, Bool.and_self, Bool.true_and, Bool.not_false, Bool.not_true, beq_self_eq_true, List.take_length, List.take_succ_cons, List.take_zero, List.take_nil, List.drop_succ_cons, List.drop_nil, Nat.mul_one, fillEl, List.replicate_succ, List.replicate_zero, wrap_i64, Int.sub_self, Int.sub_zero, Int.toNat_natCast, ← List.map_drop, ← List.map_take, List.length_drop, List.length_take, retQ, false_and, and_false, false_or, or_false, not_false_eq_true, not_true_eq_false, forall_const, List.getD_cons_zero, List.getD_cons_succ, Int.reduceBEq, Int.reduceBNe, Int.reduceAdd, Int.reduceSub, Int.reduceMul, Int.reduceGT, Int.reduceGE, bne_self_eq_false, List.length_replicate, ← List.map_append, decS, Int.natCast_one, Int.natCast_zero, Int.reduceNe, Int.reduceEq, Nat.min_self, Nat.sub_self]
  refine aw_loop (σ := Nat) (fun i => ⟨[(0, a), (2, d), (7, .own id 1 0 l.length), (10, e), (11, .int .i64 k), (12, .int .i64 (i : Int))], H0⟩) (fun i => i < l.length ∧ off l i ≤ k) (fun i => l.length - i) 0 rfl ?_ ?_
  · refine ⟨?_, by rw [off_zero]; omega⟩
    rcases Nat.eq_zero_or_pos l.length with h | h
    · rw [h, off_zero] at hk; omega
    · exact h
  rintro i ⟨hi, hoff⟩
  have hel := ends_len l l.length
  have heg := ends_get l l.length i hi
  unfold cc4l0
  by_cases h : off l (i + 1) ≤ k
  · simp -implicitDefEqProofs (maxSteps := 100000) (disch := first | decide | omega) only [↓preS, ↓reduceIte, postS, intS, pickK, nilckK, binK, beqK, cvsK, slK, bndK, slsK, fadK, fldK, iaaK, ixsK, ixaK, extK, lensK, lenlK, caplK, mmaK, bldK, ldK, cbs_map, cbs_nil, bxK, stoK, stK, blsK, mksK, appK, apzK, cvbK, csbK, sk, notSl, killOf, frzI, AV.ids, AV.ids1, AV.ids2, initR, List.map_cons, List.map_nil, List.flatMap_cons, List.flatMap_nil, Nat.reduceBEq, Nat.reduceAdd, Nat.reduceEqDiff, Bool.false_eq_true, Option.map_some, Option.map_none, List.length_nil, List.length_cons, List.nil_append, List.cons_append, retQ, resAV, and_true, true_and, or_true, true_or, and_self, reduceIte, Int.reduceToNat, Int.reduceLE, Int.reduceLT, Nat.reduceLeDiff, List.getElem?_cons_zero, List.getElem?_cons_succ, List.set_cons_zero, List.set_cons_succ, rdS, AV.fz, AV.fz1, AV.fz2, List.drop_zero, List.length_map, List.length_append, Nat.zero_add, Nat.add_zero, Nat.le_refl, Nat.reduceMul, Nat.reducePow, Nat.reduceLT, decide_true, decide_false, List.all_cons, List.all_nil, AV.el, celS, Bool.and_true, Bool.and_self, Bool.true_and, Bool.not_false, Bool.not_true, beq_self_eq_true, List.take_length, List.take_succ_cons, List.take_zero, List.take_nil, List.drop_succ_cons, List.drop_nil, Nat.mul_one, fillEl, List.replicate_succ, List.replicate_zero, wrap_i64, Int.sub_self, Int.sub_zero, Int.toNat_natCast, ← List.map_drop, ← List.map_take, List.length_drop, List.length_take, retQ, false_and, and_false, false_or, or_false, not_false_eq_true, not_true_eq_false, forall_const, List.getD_cons_zero, List.getD_cons_succ, Int.reduceBEq, Int.reduceBNe, Int.reduceAdd, Int.reduceSub, Int.reduceMul, Int.reduceGT, Int.reduceGE, bne_self_eq_false, List.length_replicate, ← List.map_append, decS, Int.natCast_one, Int.natCast_zero, Int.reduceNe, Int.reduceEq, Nat.min_self, Nat.sub_self, hid, hel, heg]
    refine ⟨by omega, by omega, by omega, i + 1, rfl, ⟨?_, h⟩, by omega⟩
    rcases Nat.lt_or_ge (i + 1) l.length with h2 | h2
    · exact h2
    · have : i + 1 = l.length := by omega
      rw [this] at h
      omega
  · simp -implicitDefEqProofs (maxSteps := 100000) (disch := first | decide | omega) only [↓preS, ↓reduceIte, postS, intS, pickK, nilckK, binK, beqK, cvsK, slK, bndK, slsK, fadK, fldK, iaaK, ixsK, ixaK, extK, lensK, lenlK, caplK, mmaK, bldK, ldK, cbs_map, cbs_nil, bxK, stoK, stK, blsK, mksK, appK, apzK, cvbK, csbK, sk, notSl, killOf, frzI, AV.ids, AV.ids1, AV.ids2, initR, List.map_cons, List.map_nil, List.flatMap_cons, List.flatMap_nil, Nat.reduceBEq, Nat.reduceAdd, Nat.reduceEqDiff, Bool.false_eq_true, Option.map_some, Option.map_none, List.length_nil, List.length_cons, List.nil_append, List.cons_append, retQ, resAV, and_true, true_and, or_true, true_or, and_self, reduceIte, Int.reduceToNat, Int.reduceLE, Int.reduceLT, Nat.reduceLeDiff, List.getElem?_cons_zero, List.getElem?_cons_succ, List.set_cons_zero, List.set_cons_succ, rdS, AV.fz, AV.fz1, AV.fz2, List.drop_zero, List.length_map, List.length_append, Nat.zero_add, Nat.add_zero, Nat.le_refl, Nat.reduceMul, Nat.reducePow, Nat.reduceLT, decide_true, decide_false, List.all_cons, List.all_nil, AV.el, celS, Bool.and_true, Bool.and_self, Bool.true_and, Bool.not_false, Bool.not_true, beq_self_eq_true, List.take_length, List.take_succ_cons, List.take_zero, List.take_nil, List.drop_succ_cons, List.drop_nil, Nat.mul_one, fillEl, List.replicate_succ, List.replicate_zero, wrap_i64, Int.sub_self, Int.sub_zero, Int.toNat_natCast, ← List.map_drop, ← List.map_take, List.length_drop, List.length_take, retQ, false_and, and_false, false_or, or_false, not_false_eq_true, not_true_eq_false, forall_const, List.getD_cons_zero, List.getD_cons_succ, Int.reduceBEq, Int.reduceBNe, Int.reduceAdd, Int.reduceSub, Int.reduceMul, Int.reduceGT, Int.reduceGE, bne_self_eq_false, List.length_replicate, ← List.map_append, decS, Int.natCast_one, Int.natCast_zero, Int.reduceNe, Int.reduceEq, Nat.min_self, Nat.sub_self, hid, hel, heg]
    exact ⟨by omega, by omega, by omega, h1 i hi hoff (by omega)⟩

theorem scan_turned (l : List (List UInt8)) (hb : ∀ b ∈ l, b.length ≤ 4000) (k hit : Nat) (y : UInt8) (hh : hit < l.length) (h1 : off l hit ≤ k) (h2 : k < off l (hit + 1)) (hy : y ≠ (l.flatMap frameL).getD k 0) :
    ∃ r : List UInt8, scan ((l.flatMap frameL).set k y) = (l.take hit ++ (scan r).1, off l hit + (scan r).2) ∧ (4 ≤ k - off l hit → scan r = ([], 0)) := by
  have hos := off_succ l hit hh
  have hmem : l.getD hit default ∈ l := by rw [List.getD_eq_getElem?_getD, List.getElem?_eq_getElem hh]; exact List.getElem_mem hh
  have e : l = l.take hit ++ l.getD hit default :: l.drop (hit + 1) := by
    rw [List.getD_eq_getElem?_getD, List.getElem?_eq_getElem hh]
    simp
  have e2 : l.flatMap frameL = (l.take hit).flatMap frameL ++ (frameL (l.getD hit default) ++ (l.drop (hit + 1)).flatMap frameL) := by
    conv => lhs; rw [e]
    simp
  have hbl := hb _ hmem
  have htk : ∀ b ∈ l.take hit, b.length ≤ 4000 := fun b h => hb b (List.mem_of_mem_take h)
  generalize l.getD hit default = b at *
  have hfl := frameL_len b
  have hoff : ((l.take hit).flatMap frameL).length = off l hit := rfl
  have hj : k - off l hit < (frameL b).length := by omega
  have e3 : (l.flatMap frameL).set k y = (l.take hit).flatMap frameL ++ ((frameL b).set (k - off l hit) y ++ (l.drop (hit + 1)).flatMap frameL) := by
    rw [e2, List.set_append_right _ _ (by omega), List.set_append_left _ _ (by omega), hoff]
  refine ⟨(frameL b).set (k - off l hit) y ++ (l.drop (hit + 1)).flatMap frameL, ?_, fun h4 => scan_none (step_turned b _ _ y hbl h4 hj ?_)⟩
  · rw [e3, scan_frames _ _ htk, hoff]
  · intro e4
    apply hy
    rw [e4, e2, List.getD_eq_getElem?_getD, List.getD_eq_getElem?_getD, List.getElem?_append_right (by omega), hoff, List.getElem?_append_left hj]
end Go.Proofs.Ytdknamiaadonlaa
