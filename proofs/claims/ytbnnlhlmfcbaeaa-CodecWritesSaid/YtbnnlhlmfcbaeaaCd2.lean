/- What functions of the program compute. No condition. -/
import Derived.Test.YtbnnlhlmfcbaeaaCd
set_option linter.unusedSimpArgs false
set_option linter.unusedVariables false
namespace Go.Proofs.Ytbnnlhlmfcbaeaa
open Go Go.Ab
theorem mm_nat {k : IntKind} {n : Nat} {K : AV → Prop} : mmK false k (n : Int) [.int k 65535] K = K (.int k ((min 65535 n : Nat) : Int)) := by
  simp only [mmK, true_and]
  congr 2
  simp only [Bool.false_eq_true, if_false]
  omega
theorem take_cap {α : Type} {l : List α} : l.take (min 65535 l.length) = l.take 65535 := by
  rw [List.take_eq_take_iff]
  omega
def textL (s : List UInt8) : List UInt8 := be 2 ((s.take 65535).length : Int) ++ s.take 65535
theorem text_ok (l s : List UInt8) (hl : l.length ≤ 2 ^ 32) (hs : s.length ≤ 2 ^ 40) : PCall Try.prog 12 [.sl false 1 (l.map U8), .str s] (SB (l ++ textL s)) := by
  unfold PCall
  refine acall_of is12 (by simp) ?_
  unfold cc12
  simp -implicitDefEqProofs (maxSteps := 500000) (disch := first | decide | omega) only [↓preS, ↓reduceIte, allS, Nat.reduceBEq, Nat.reduceAdd, Nat.reduceEqDiff, reduceIte, Int.reduceToNat, Int.reduceLE, Int.reduceLT, Nat.reduceLeDiff, Nat.reduceMul, Nat.reducePow, Nat.reduceLT, Int.reduceBEq, Int.reduceBNe, Int.reduceAdd, Int.reduceSub, Int.reduceMul, Int.reduceGT, Int.reduceGE, decS, Int.reduceNe, Int.reduceEq, mm_nat, take_cap]
  refine ⟨by omega, by omega, by omega, ?_⟩
  have e : ((min (min 65535 s.length) s.length - 0 : Nat) : Int) = ((s.take 65535).length : Int) := by simp
  have h3 : (s.take 65535).length ≤ 65535 := by simp; omega
  rw [e]
  unfold textL
  generalize s.take 65535 = x at h3 ⊢
  refine acK_of (FCall.of (lent := false) (row_ok (x.length : Int) 2 (by omega)) (.refl rfl) rfl (by simp)) ?_
  simp -implicitDefEqProofs (maxSteps := 500000) (disch := first | decide | omega) only [↓preS, ↓reduceIte, allS, Nat.reduceBEq, Nat.reduceAdd, Nat.reduceEqDiff, reduceIte, Int.reduceToNat, Int.reduceLE, Int.reduceLT, Nat.reduceLeDiff, Nat.reduceMul, Nat.reducePow, Nat.reduceLT, Int.reduceBEq, Int.reduceBNe, Int.reduceAdd, Int.reduceSub, Int.reduceMul, Int.reduceGT, Int.reduceGE, decS, Int.reduceNe, Int.reduceEq, SB]
  refine ⟨by omega, acK_concat [l, be 2 x.length, x] (by simp) (by simp [be_len]; omega) fun q n hq he => ?_⟩
  simp -implicitDefEqProofs (maxSteps := 500000) (disch := first | decide | omega) only [↓preS, ↓reduceIte, allS, Nat.reduceBEq, Nat.reduceAdd, Nat.reduceEqDiff, reduceIte, Int.reduceToNat, Int.reduceLE, Int.reduceLT, Nat.reduceLeDiff, Nat.reduceMul, Nat.reducePow, Nat.reduceLT, Int.reduceBEq, Int.reduceBNe, Int.reduceAdd, Int.reduceSub, Int.reduceMul, Int.reduceGT, Int.reduceGE, decS, Int.reduceNe, Int.reduceEq, hq, he]
  simp
def intsL (xs : List Int) : List UInt8 := be 2 ((xs.take 65535).length : Int) ++ (xs.take 65535).flatMap (be 8)
theorem flat8_len : ∀ xs : List Int, (xs.flatMap (be 8)).length = 8 * xs.length
  | [] => rfl
  | x :: xs => by
    rw [List.flatMap_cons, List.length_append, be_len, flat8_len xs, List.length_cons]
    omega
theorem loop14 (t : Bool) (h0 : List UInt8) (hh : h0.length ≤ 2 ^ 33) (xs : List Int) (hx : xs.length ≤ 65535) (n0 : Nat) (q0 : List AV) (hq0 : n0 ≤ q0.length) (he0 : q0.take n0 = h0.map U8) (Q : AE → St → Prop)
    (h : ∀ n q, n ≤ q.length → q.take n = (h0 ++ xs.flatMap (be 8)).map U8 → Q .normal ⟨[(5, .own 0 1 0 n)], [.arr 1 q]⟩) :
    aw Try.prog cc14L0 Q ⟨[(5, .own 1 1 0 n0), (19, .sl t 1 (xs.map I64)), (20, .int .i64 xs.length), (21, .int .i64 0)], [.dead, .arr 1 q0]⟩ := by
  unfold cc14L0
  simp -implicitDefEqProofs (maxSteps := 500000) (disch := first | decide | omega) only [↓preS, ↓reduceIte, allS, Nat.reduceBEq, Nat.reduceAdd, Nat.reduceEqDiff, reduceIte, Int.reduceToNat, Int.reduceLE, Int.reduceLT, Nat.reduceLeDiff, Nat.reduceMul, Nat.reducePow, Nat.reduceLT, Int.reduceBEq, Int.reduceBNe, Int.reduceAdd, Int.reduceSub, Int.reduceMul, Int.reduceGT, Int.reduceGE, decS, Int.reduceNe, Int.reduceEq]
  refine aw_loopS (σ := Nat × Nat × List AV) (fun i => ⟨[(5, .own 0 1 0 i.2.1), (19, .sl t 1 (xs.map I64)), (20, .int .i64 xs.length), (21, .int .i64 (i.1 : Int))], [.arr 1 i.2.2]⟩)
    (fun i => i.1 ≤ xs.length ∧ i.2.1 ≤ i.2.2.length ∧ i.2.2.take i.2.1 = (h0 ++ (xs.take i.1).flatMap (be 8)).map U8) (fun i => xs.length - i.1) (0, n0, q0) ?_ ⟨by simp, hq0, by simpa using he0⟩ ?_
  · (refine Sub.ofL [some 1] rfl (by simp) (by decide) (by simp [partL, AO.ro, AV.ro, AV.roL, names, AO.empty, SB, U8, SI, I64, STR] <;> (try and_intros) <;> rfl) (by simp [AO.bo, AV.bo, AV.boL, names] <;> (try and_intros) <;> rfl) ?_ <;> (try simp only [List.map_cons, List.map_nil, regsL, AV.ro, AV.roL, AV.bo, AV.boL, names, get_here, get_there, Nat.reduceBEq, List.getD_cons_zero, List.getD_cons_succ, List.getD_nil, and_true, true_and, Nat.reduceLT, List.length_cons, List.length_nil, Nat.reduceAdd, decide_true, Option.isSome_some, Bool.true_or, Bool.and_self, Option.isSome_none, Bool.false_or, beq_self_eq_true, wk0_self, wk0_nils]) <;> (try and_intros) <;> (first | done | rfl | exact .inl rfl | exact .inr ⟨rfl, _, _, rfl⟩ | (simp; done) | (simp; omega) | (refine .inl ?_; simp; done) | (refine .inl ?_; simp; omega)))
  rintro ⟨k, n, q⟩ ⟨hk, hn, hq⟩
  simp only at hk hn hq
  have hlen := congrArg List.length hq
  simp only [List.length_take, List.length_map, List.length_append, flat8_len] at hlen
  unfold cc14l0
  simp -implicitDefEqProofs (maxSteps := 500000) (disch := first | decide | omega) only [↓preS, ↓reduceIte, allS, Nat.reduceBEq, Nat.reduceAdd, Nat.reduceEqDiff, reduceIte, Int.reduceToNat, Int.reduceLE, Int.reduceLT, Nat.reduceLeDiff, Nat.reduceMul, Nat.reducePow, Nat.reduceLT, Int.reduceBEq, Int.reduceBNe, Int.reduceAdd, Int.reduceSub, Int.reduceMul, Int.reduceGT, Int.reduceGE, decS, Int.reduceNe, Int.reduceEq]
  refine cK_split (fun hb => ?_) (fun hb => ?_)
  · simp (disch := omega) only [decide_eq_true_eq, decide_eq_false_iff_not, wrap_i64, beq_iff_eq, bne_iff_ne, beq_eq_false_iff_ne, bne_eq_false_iff_eq, Bool.not_eq_true, Bool.not_eq_false, eq_u32, ne_u32] at hb
    have hk' : k < xs.length := by omega
    simp -implicitDefEqProofs (maxSteps := 500000) (disch := first | decide | omega) only [↓preS, ↓reduceIte, allS, Nat.reduceBEq, Nat.reduceAdd, Nat.reduceEqDiff, reduceIte, Int.reduceToNat, Int.reduceLE, Int.reduceLT, Nat.reduceLeDiff, Nat.reduceMul, Nat.reducePow, Nat.reduceLT, Int.reduceBEq, Int.reduceBNe, Int.reduceAdd, Int.reduceSub, Int.reduceMul, Int.reduceGT, Int.reduceGE, decS, Int.reduceNe, Int.reduceEq, I64]
    refine ⟨by omega, by omega, ?_⟩
    refine acK_of (FCall.of (lent := false) (row_ok (xs.getD k default) 8 (by omega)) (.refl rfl) rfl (by simp)) ?_
    simp -implicitDefEqProofs (maxSteps := 500000) (disch := first | decide | omega) only [↓preS, ↓reduceIte, allS, Nat.reduceBEq, Nat.reduceAdd, Nat.reduceEqDiff, reduceIte, Int.reduceToNat, Int.reduceLE, Int.reduceLT, Nat.reduceLeDiff, Nat.reduceMul, Nat.reducePow, Nat.reduceLT, Int.reduceBEq, Int.reduceBNe, Int.reduceAdd, Int.reduceSub, Int.reduceMul, Int.reduceGT, Int.reduceGE, decS, Int.reduceNe, Int.reduceEq, SB, hn, be_len]
    have htk : xs.take (k + 1) = xs.take k ++ [xs.getD k default] := by
      rw [List.take_succ_eq_append_getElem hk', List.getD_eq_getElem?_getD, List.getElem?_eq_getElem hk']
      rfl
    have hmin : min n q.length = n := by omega
    rw [hmin]
    refine ⟨⟨by omega, by omega⟩, (k + 1, n + 8, q.take n ++ (be 8 (xs.getD k default)).map U8), ?_, ⟨by simp only; omega, by simp [be_len]; omega, ?_⟩, by simp only; omega⟩
    · simp only
      generalize (be 8 (xs.getD k default)) = y
      (refine Sub.ofL [some 1] rfl (by simp) (by decide) (by simp [partL, AO.ro, AV.ro, AV.roL, names, AO.empty, SB, U8, SI, I64, STR] <;> (try and_intros) <;> rfl) (by simp [AO.bo, AV.bo, AV.boL, names] <;> (try and_intros) <;> rfl) ?_ <;> (try simp only [List.map_cons, List.map_nil, regsL, AV.ro, AV.roL, AV.bo, AV.boL, names, get_here, get_there, Nat.reduceBEq, List.getD_cons_zero, List.getD_cons_succ, List.getD_nil, and_true, true_and, Nat.reduceLT, List.length_cons, List.length_nil, Nat.reduceAdd, decide_true, Option.isSome_some, Bool.true_or, Bool.and_self, Option.isSome_none, Bool.false_or, beq_self_eq_true, wk0_self, wk0_nils]) <;> (try and_intros) <;> (first | done | rfl | exact .inl rfl | exact .inr ⟨rfl, _, _, rfl⟩ | (simp; done) | (simp; omega) | (refine .inl ?_; simp; done) | (refine .inl ?_; simp; omega)))
    · simp only
      rw [List.take_of_length_le (by simp [be_len]; omega), hq, htk, List.flatMap_append, ← List.append_assoc, List.map_append (l₁ := h0 ++ _)]
      simp
  · simp (disch := omega) only [decide_eq_true_eq, decide_eq_false_iff_not, wrap_i64, beq_iff_eq, bne_iff_ne, beq_eq_false_iff_ne, bne_eq_false_iff_eq, Bool.not_eq_true, Bool.not_eq_false, eq_u32, ne_u32] at hb
    simp -implicitDefEqProofs (maxSteps := 500000) (disch := first | decide | omega) only [↓preS, ↓reduceIte, allS, Nat.reduceBEq, Nat.reduceAdd, Nat.reduceEqDiff, reduceIte, Int.reduceToNat, Int.reduceLE, Int.reduceLT, Nat.reduceLeDiff, Nat.reduceMul, Nat.reducePow, Nat.reduceLT, Int.reduceBEq, Int.reduceBNe, Int.reduceAdd, Int.reduceSub, Int.reduceMul, Int.reduceGT, Int.reduceGE, decS, Int.reduceNe, Int.reduceEq]
    have : k = xs.length := by omega
    subst this
    rw [List.take_length] at hq
    exact h _ _ hn hq
theorem ints_ok (t : Bool) (l : List UInt8) (xs : List Int) (hl : l.length ≤ 2 ^ 32) (hs : xs.length ≤ 2 ^ 40) : PCall Try.prog 14 [.sl false 1 (l.map U8), .sl t 1 (xs.map I64)] (SB (l ++ intsL xs)) := by
  unfold PCall
  refine acall_of is14 (by simp) ?_
  unfold cc14
  simp -implicitDefEqProofs (maxSteps := 500000) (disch := first | decide | omega) only [↓preS, ↓reduceIte, allS, Nat.reduceBEq, Nat.reduceAdd, Nat.reduceEqDiff, reduceIte, Int.reduceToNat, Int.reduceLE, Int.reduceLT, Nat.reduceLeDiff, Nat.reduceMul, Nat.reducePow, Nat.reduceLT, Int.reduceBEq, Int.reduceBNe, Int.reduceAdd, Int.reduceSub, Int.reduceMul, Int.reduceGT, Int.reduceGE, decS, Int.reduceNe, Int.reduceEq, mm_nat, take_cap]
  refine ⟨by omega, by omega, by omega, ?_⟩
  have e : ((min (min 65535 xs.length) xs.length - 0 : Nat) : Int) = ((xs.take 65535).length : Int) := by simp
  have h3 : (xs.take 65535).length ≤ 65535 := by simp; omega
  rw [e]
  unfold intsL
  generalize xs.take 65535 = x at h3 ⊢
  refine acK_of (FCall.of (lent := false) (row_ok (x.length : Int) 2 (by omega)) (.refl rfl) rfl (by simp)) ?_
  simp -implicitDefEqProofs (maxSteps := 500000) (disch := first | decide | omega) only [↓preS, ↓reduceIte, allS, Nat.reduceBEq, Nat.reduceAdd, Nat.reduceEqDiff, reduceIte, Int.reduceToNat, Int.reduceLE, Int.reduceLT, Nat.reduceLeDiff, Nat.reduceMul, Nat.reducePow, Nat.reduceLT, Int.reduceBEq, Int.reduceBNe, Int.reduceAdd, Int.reduceSub, Int.reduceMul, Int.reduceGT, Int.reduceGE, decS, Int.reduceNe, Int.reduceEq, SB]
  refine acK_concat [l, be 2 x.length] (by simp) (by simp [be_len]; omega) fun q n hq he => ?_
  simp -implicitDefEqProofs (maxSteps := 500000) (disch := first | decide | omega) only [↓preS, ↓reduceIte, allS, Nat.reduceBEq, Nat.reduceAdd, Nat.reduceEqDiff, reduceIte, Int.reduceToNat, Int.reduceLE, Int.reduceLT, Nat.reduceLeDiff, Nat.reduceMul, Nat.reducePow, Nat.reduceLT, Int.reduceBEq, Int.reduceBNe, Int.reduceAdd, Int.reduceSub, Int.reduceMul, Int.reduceGT, Int.reduceGE, decS, Int.reduceNe, Int.reduceEq]
  refine loop14 t (l ++ be 2 x.length) (by simp [be_len]; omega) x h3 n _ (by simpa using hq) (by simpa using he) _ fun n' q' hq' he' => ?_
  simp -implicitDefEqProofs (maxSteps := 500000) (disch := first | decide | omega) only [↓preS, ↓reduceIte, allS, Nat.reduceBEq, Nat.reduceAdd, Nat.reduceEqDiff, reduceIte, Int.reduceToNat, Int.reduceLE, Int.reduceLT, Nat.reduceLeDiff, Nat.reduceMul, Nat.reducePow, Nat.reduceLT, Int.reduceBEq, Int.reduceBNe, Int.reduceAdd, Int.reduceSub, Int.reduceMul, Int.reduceGT, Int.reduceGE, decS, Int.reduceNe, Int.reduceEq]
  have hlen := congrArg List.length he'
  simp only [List.length_take, List.length_map, List.length_append, flat8_len, be_len] at hlen
  refine acK_of (FCall.of (lent := true) (clone_ok true (l ++ be 2 x.length ++ x.flatMap (be 8)) (by simp only [List.length_append, be_len, flat8_len]; omega)) (.cons (Vw.own ?_) .nil) rfl (fun _ => rfl)) ?_
  · simp only [rdS, if_true, List.getElem?_cons_zero, Nat.zero_add, hq', List.drop_zero, he', and_self]
  simp -implicitDefEqProofs (maxSteps := 500000) (disch := first | decide | omega) only [↓preS, ↓reduceIte, allS, Nat.reduceBEq, Nat.reduceAdd, Nat.reduceEqDiff, reduceIte, Int.reduceToNat, Int.reduceLE, Int.reduceLT, Nat.reduceLeDiff, Nat.reduceMul, Nat.reducePow, Nat.reduceLT, Int.reduceBEq, Int.reduceBNe, Int.reduceAdd, Int.reduceSub, Int.reduceMul, Int.reduceGT, Int.reduceGE, decS, Int.reduceNe, Int.reduceEq]
  simp
theorem known_ok : PCall Try.prog 9 [] (.bool true) := by
  unfold PCall
  refine acall_of is9 (by simp) ?_
  unfold cc9
  simp -implicitDefEqProofs (maxSteps := 500000) (disch := first | decide | omega) only [↓preS, ↓reduceIte, allS, Nat.reduceBEq, Nat.reduceAdd, Nat.reduceEqDiff, reduceIte, Int.reduceToNat, Int.reduceLE, Int.reduceLT, Nat.reduceLeDiff, Nat.reduceMul, Nat.reducePow, Nat.reduceLT, Int.reduceBEq, Int.reduceBNe, Int.reduceAdd, Int.reduceSub, Int.reduceMul, Int.reduceGT, Int.reduceGE, decS, Int.reduceNe, Int.reduceEq]
  refine acK_of (FCall.of (lent := false) (int_ok [] 1 (by simp)) (.cons .nils (.refl rfl)) rfl (by simp)) ?_
  have e : be 8 1 = [0, 0, 0, 0, 0, 0, 0, 1] := by decide
  simp -implicitDefEqProofs (maxSteps := 500000) (disch := first | decide | omega) only [↓preS, ↓reduceIte, allS, Nat.reduceBEq, Nat.reduceAdd, Nat.reduceEqDiff, reduceIte, Int.reduceToNat, Int.reduceLE, Int.reduceLT, Nat.reduceLeDiff, Nat.reduceMul, Nat.reducePow, Nat.reduceLT, Int.reduceBEq, Int.reduceBNe, Int.reduceAdd, Int.reduceSub, Int.reduceMul, Int.reduceGT, Int.reduceGE, decS, Int.reduceNe, Int.reduceEq, SB, e]
  exact ⟨by omega, by omega⟩
end Go.Proofs.Ytbnnlhlmfcbaeaa
