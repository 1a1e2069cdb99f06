/- What functions of the program compute. No condition. -/
import Derived.Test.YtbnnlhlmfcbaeaaR2kCode
import Derived.Test.YtbnnlhlmfcbaeaaL4
set_option linter.unusedSimpArgs false
set_option linter.unusedVariables false
namespace Go.Proofs.Ytbnnlhlmfcbaeaa
open Go Go.Ab
def by64 (v : Int) (s : Nat) : UInt8 := ⟨BitVec.ofInt 8 (((BitVec.ofInt 64 v) >>> s).toNat : Int)⟩
def bep (n : Nat) (v : Int) (k : Nat) : List UInt8 := (List.range k).map fun i => by64 v (8 * (n - 1 - i))
def be (n : Nat) (v : Int) : List UInt8 := bep n v n
theorem bep_len (n : Nat) (v : Int) (k : Nat) : (bep n v k).length = k := by simp [bep]
theorem bep_succ (n : Nat) (v : Int) (k : Nat) : bep n v (k + 1) = bep n v k ++ [by64 v (8 * (n - 1 - k))] := by simp [bep, List.range_succ]
theorem be_len (n : Nat) (v : Int) : (be n v).length = n := bep_len n v n
theorem row_ok (v : Int) (n : Nat) (hn : n ≤ 8) : PCall Try.prog 31 [.int .i64 v, .int .i64 (n : Int)] (SB (be n v)) := by
  unfold PCall
  refine acall_of is31 (by simp) ?_
  unfold cc31
  simp -implicitDefEqProofs (maxSteps := 500000) (disch := first | decide | omega) only [↓preS, ↓reduceIte, allS, Nat.reduceBEq, Nat.reduceAdd, Nat.reduceEqDiff, reduceIte, Int.reduceToNat, Int.reduceLE, Int.reduceLT, Nat.reduceLeDiff, Nat.reduceMul, Nat.reducePow, Nat.reduceLT, Int.reduceBEq, Int.reduceBNe, Int.reduceAdd, Int.reduceSub, Int.reduceMul, Int.reduceGT, Int.reduceGE, decS, Int.reduceNe, Int.reduceEq]
  have key : ∀ Q : AE → St → Prop, Q .normal ⟨[(5, .own 0 1 0 n)], [.arr 1 ((be n v).map U8)]⟩ → aw Try.prog cc31L0 Q ⟨[(0, .int .i64 v), (1, .int .i64 (n : Int)), (5, .nils), (7, .int .i64 (n : Int)), (8, .int .i64 0)], []⟩ := by
    intro Q h
    unfold cc31L0
    simp -implicitDefEqProofs (maxSteps := 500000) (disch := first | decide | omega) only [↓preS, ↓reduceIte, allS, Nat.reduceBEq, Nat.reduceAdd, Nat.reduceEqDiff, reduceIte, Int.reduceToNat, Int.reduceLE, Int.reduceLT, Nat.reduceLeDiff, Nat.reduceMul, Nat.reducePow, Nat.reduceLT, Int.reduceBEq, Int.reduceBNe, Int.reduceAdd, Int.reduceSub, Int.reduceMul, Int.reduceGT, Int.reduceGE, decS, Int.reduceNe, Int.reduceEq]
    refine aw_loopS (σ := Nat) (fun i => ⟨[(0, .int .i64 v), (1, .int .i64 (n : Int)), (5, .own 0 1 0 i), (7, .int .i64 (n : Int)), (8, .int .i64 (i : Int))], [.arr 1 ((bep n v i).map U8)]⟩)
      (fun i => i ≤ n) (fun i => n - i) 0 ?_ (by simp) ?_
    · show Sub _ _ ⟨_, [.arr 1 []]⟩
      (refine Sub.ofL [none] rfl (by simp) (by decide) (by simp [partL, AO.ro, AV.ro, AV.roL, names, AO.empty, SB, U8, SI, I64, STR] <;> (try and_intros) <;> rfl) (by simp [AO.bo, AV.bo, AV.boL, names] <;> (try and_intros) <;> rfl) ?_ <;> (try simp only [List.map_cons, List.map_nil, regsL, AV.ro, AV.roL, AV.bo, AV.boL, names, get_here, get_there, Nat.reduceBEq, List.getD_cons_zero, List.getD_cons_succ, List.getD_nil, and_true, true_and, Nat.reduceLT, List.length_cons, List.length_nil, Nat.reduceAdd, decide_true, Option.isSome_some, Bool.true_or, Bool.and_self, Option.isSome_none, Bool.false_or, beq_self_eq_true, wk0_self, wk0_nils]) <;> (try and_intros) <;> (first | done | rfl | exact .inl rfl | exact .inr ⟨rfl, _, _, rfl⟩ | (simp; done) | (simp; omega) | (refine .inl ?_; simp; done) | (refine .inl ?_; simp; omega)))
    intro k hk
    unfold cc31l0
    simp -implicitDefEqProofs (maxSteps := 500000) (disch := first | decide | omega) only [↓preS, ↓reduceIte, allS, Nat.reduceBEq, Nat.reduceAdd, Nat.reduceEqDiff, reduceIte, Int.reduceToNat, Int.reduceLE, Int.reduceLT, Nat.reduceLeDiff, Nat.reduceMul, Nat.reducePow, Nat.reduceLT, Int.reduceBEq, Int.reduceBNe, Int.reduceAdd, Int.reduceSub, Int.reduceMul, Int.reduceGT, Int.reduceGE, decS, Int.reduceNe, Int.reduceEq]
    refine cK_split (fun hb => ?_) (fun hb => ?_)
    · simp (disch := omega) only [decide_eq_true_eq, decide_eq_false_iff_not, wrap_i64, beq_iff_eq, bne_iff_ne, beq_eq_false_iff_ne, bne_eq_false_iff_eq, Bool.not_eq_true, Bool.not_eq_false, eq_u32, ne_u32] at hb
      have e1 : min (8 * ((n : Int) - 1 - k)).toNat 64 = 8 * (n - 1 - k) := by omega
      have e4 : (bep n v k).take k = bep n v k := List.take_of_length_le (by rw [bep_len]; exact Nat.le_refl _)
      simp -implicitDefEqProofs (maxSteps := 500000) (disch := first | decide | omega) only [↓preS, ↓reduceIte, allS, Nat.reduceBEq, Nat.reduceAdd, Nat.reduceEqDiff, reduceIte, Int.reduceToNat, Int.reduceLE, Int.reduceLT, Nat.reduceLeDiff, Nat.reduceMul, Nat.reducePow, Nat.reduceLT, Int.reduceBEq, Int.reduceBNe, Int.reduceAdd, Int.reduceSub, Int.reduceMul, Int.reduceGT, Int.reduceGE, decS, Int.reduceNe, Int.reduceEq, bep_len, e1, e4]
      refine ⟨by omega, by omega, k + 1, ?_, by omega, by omega⟩
      rw [bep_succ, List.map_append]
      have e3 : AV.int .u8 ((BitVec.ofInt 8 (((BitVec.ofInt 64 v) >>> (8 * (n - 1 - k))).toNat : Int)).toNat : Int) = U8 (by64 v (8 * (n - 1 - k))) := rfl
      rw [e3]
      generalize List.map U8 (bep n v k) = x
      simp only [List.map_cons, List.map_nil]
      generalize by64 v (8 * (n - 1 - k)) = y
      (refine Sub.ofL [some 2] rfl (by simp) (by decide) (by simp [partL, AO.ro, AV.ro, AV.roL, names, AO.empty, SB, U8, SI, I64, STR] <;> (try and_intros) <;> rfl) (by simp [AO.bo, AV.bo, AV.boL, names] <;> (try and_intros) <;> rfl) ?_ <;> (try simp only [List.map_cons, List.map_nil, regsL, AV.ro, AV.roL, AV.bo, AV.boL, names, get_here, get_there, Nat.reduceBEq, List.getD_cons_zero, List.getD_cons_succ, List.getD_nil, and_true, true_and, Nat.reduceLT, List.length_cons, List.length_nil, Nat.reduceAdd, decide_true, Option.isSome_some, Bool.true_or, Bool.and_self, Option.isSome_none, Bool.false_or, beq_self_eq_true, wk0_self, wk0_nils]) <;> (try and_intros) <;> (first | done | rfl | exact .inl rfl | exact .inr ⟨rfl, _, _, rfl⟩ | (simp; done) | (simp; omega) | (refine .inl ?_; simp; done) | (refine .inl ?_; simp; omega)))
    · simp (disch := omega) only [decide_eq_true_eq, decide_eq_false_iff_not, wrap_i64, beq_iff_eq, bne_iff_ne, beq_eq_false_iff_ne, bne_eq_false_iff_eq, Bool.not_eq_true, Bool.not_eq_false, eq_u32, ne_u32] at hb
      simp -implicitDefEqProofs (maxSteps := 500000) (disch := first | decide | omega) only [↓preS, ↓reduceIte, allS, Nat.reduceBEq, Nat.reduceAdd, Nat.reduceEqDiff, reduceIte, Int.reduceToNat, Int.reduceLE, Int.reduceLT, Nat.reduceLeDiff, Nat.reduceMul, Nat.reducePow, Nat.reduceLT, Int.reduceBEq, Int.reduceBNe, Int.reduceAdd, Int.reduceSub, Int.reduceMul, Int.reduceGT, Int.reduceGE, decS, Int.reduceNe, Int.reduceEq]
      have : k = n := by omega
      subst this
      exact h
  refine key _ ?_
  have e : (be n v).take n = be n v := List.take_of_length_le (by rw [be_len]; exact Nat.le_refl _)
  simp -implicitDefEqProofs (maxSteps := 500000) (disch := first | decide | omega) only [↓preS, ↓reduceIte, allS, Nat.reduceBEq, Nat.reduceAdd, Nat.reduceEqDiff, reduceIte, Int.reduceToNat, Int.reduceLE, Int.reduceLT, Nat.reduceLeDiff, Nat.reduceMul, Nat.reducePow, Nat.reduceLT, Int.reduceBEq, Int.reduceBNe, Int.reduceAdd, Int.reduceSub, Int.reduceMul, Int.reduceGT, Int.reduceGE, decS, Int.reduceNe, Int.reduceEq, be_len, e]
  rfl
theorem clone_ok (t : Bool) (l : List UInt8) (hl : l.length ≤ 2 ^ 40) : PCall Try.prog 32 [.sl t 1 (l.map U8)] (.sl false 1 (l.map U8)) := by
  refine PCall.wk (acall_of is32 (by simp) ?_)
  unfold cc32
  simp -implicitDefEqProofs (maxSteps := 500000) (disch := first | decide | omega) only [↓preS, ↓reduceIte, allS, Nat.reduceBEq, Nat.reduceAdd, Nat.reduceEqDiff, reduceIte, Int.reduceToNat, Int.reduceLE, Int.reduceLT, Nat.reduceLeDiff, Nat.reduceMul, Nat.reducePow, Nat.reduceLT, Int.reduceBEq, Int.reduceBNe, Int.reduceAdd, Int.reduceSub, Int.reduceMul, Int.reduceGT, Int.reduceGE, decS, Int.reduceNe, Int.reduceEq]
  refine ⟨fun e => .inl (.inr ⟨rfl, _, _, by rw [e]⟩), ⟨by omega, by omega⟩, .inl (.inl ?_)⟩
  rfl
theorem grow_ok (n : Int) (h0 : 0 ≤ n) (h1 : n ≤ 2 ^ 40) : ACall Try.prog 41 [.nils, .int .i64 n] [] fun y H' => (y = .nils ∧ H' = []) ∨ (∃ l, y = .own 0 1 0 0 ∧ H' = [.arr 1 l]) := by
  refine acall_of is41 (by simp) ?_
  unfold cc41
  simp -implicitDefEqProofs (maxSteps := 500000) (disch := first | decide | omega) only [↓preS, ↓reduceIte, allS, Nat.reduceBEq, Nat.reduceAdd, Nat.reduceEqDiff, reduceIte, Int.reduceToNat, Int.reduceLE, Int.reduceLT, Nat.reduceLeDiff, Nat.reduceMul, Nat.reducePow, Nat.reduceLT, Int.reduceBEq, Int.reduceBNe, Int.reduceAdd, Int.reduceSub, Int.reduceMul, Int.reduceGT, Int.reduceGE, decS, Int.reduceNe, Int.reduceEq]
  refine cK_split (fun hb => ?_) (fun hb => ?_)
  · simp (disch := omega) only [decide_eq_true_eq, decide_eq_false_iff_not, wrap_i64, beq_iff_eq, bne_iff_ne, beq_eq_false_iff_ne, bne_eq_false_iff_eq, Bool.not_eq_true, Bool.not_eq_false, eq_u32, ne_u32] at hb
    simp -implicitDefEqProofs (maxSteps := 500000) (disch := first | decide | omega) only [↓preS, ↓reduceIte, allS, Nat.reduceBEq, Nat.reduceAdd, Nat.reduceEqDiff, reduceIte, Int.reduceToNat, Int.reduceLE, Int.reduceLT, Nat.reduceLeDiff, Nat.reduceMul, Nat.reducePow, Nat.reduceLT, Int.reduceBEq, Int.reduceBNe, Int.reduceAdd, Int.reduceSub, Int.reduceMul, Int.reduceGT, Int.reduceGE, decS, Int.reduceNe, Int.reduceEq]
    exact ⟨⟨h0, by omega⟩, ⟨by omega, by omega⟩, by omega, .inr ⟨_, rfl⟩⟩
  · simp -implicitDefEqProofs (maxSteps := 500000) (disch := first | decide | omega) only [↓preS, ↓reduceIte, allS, Nat.reduceBEq, Nat.reduceAdd, Nat.reduceEqDiff, reduceIte, Int.reduceToNat, Int.reduceLE, Int.reduceLT, Nat.reduceLeDiff, Nat.reduceMul, Nat.reducePow, Nat.reduceLT, Int.reduceBEq, Int.reduceBNe, Int.reduceAdd, Int.reduceSub, Int.reduceMul, Int.reduceGT, Int.reduceGE, decS, Int.reduceNe, Int.reduceEq]
def tot (ls : List (List UInt8)) : Nat := ls.flatten.length
theorem loop30a (a : AV) (t : Bool) (ls : List (List UInt8)) (hl : ls.length ≤ 2 ^ 40) (hs : tot ls ≤ 2 ^ 40) (Q : AE → St → Prop) (h : Q .normal ⟨[(0, a), (3, .int .i64 (tot ls))], []⟩) :
    aw Try.prog cc30L1 Q ⟨[(0, a), (3, .int .i64 0), (9, .sl t 1 (ls.map SB)), (10, .int .i64 ls.length), (11, .int .i64 0)], []⟩ := by
  unfold cc30L1
  simp -implicitDefEqProofs (maxSteps := 500000) (disch := first | decide | omega) only [↓preS, ↓reduceIte, allS, Nat.reduceBEq, Nat.reduceAdd, Nat.reduceEqDiff, reduceIte, Int.reduceToNat, Int.reduceLE, Int.reduceLT, Nat.reduceLeDiff, Nat.reduceMul, Nat.reducePow, Nat.reduceLT, Int.reduceBEq, Int.reduceBNe, Int.reduceAdd, Int.reduceSub, Int.reduceMul, Int.reduceGT, Int.reduceGE, decS, Int.reduceNe, Int.reduceEq]
  refine aw_loop (σ := Nat) (fun i => ⟨[(0, a), (3, .int .i64 (tot (ls.take i))), (9, .sl t 1 (ls.map SB)), (10, .int .i64 ls.length), (11, .int .i64 (i : Int))], []⟩) (fun i => i ≤ ls.length) (fun i => ls.length - i) 0 rfl (by simp) ?_
  intro k hk
  have hle : tot (ls.take k) ≤ tot ls := by
    have := congrArg (fun x => (List.flatten x).length) (List.take_append_drop k ls)
    simp only [List.flatten_append, List.length_append] at this
    unfold tot
    omega
  unfold cc30l1
  simp -implicitDefEqProofs (maxSteps := 500000) (disch := first | decide | omega) only [↓preS, ↓reduceIte, allS, Nat.reduceBEq, Nat.reduceAdd, Nat.reduceEqDiff, reduceIte, Int.reduceToNat, Int.reduceLE, Int.reduceLT, Nat.reduceLeDiff, Nat.reduceMul, Nat.reducePow, Nat.reduceLT, Int.reduceBEq, Int.reduceBNe, Int.reduceAdd, Int.reduceSub, Int.reduceMul, Int.reduceGT, Int.reduceGE, decS, Int.reduceNe, Int.reduceEq]
  refine cK_split (fun hb => ?_) (fun hb => ?_)
  · simp (disch := omega) only [decide_eq_true_eq, decide_eq_false_iff_not, wrap_i64, beq_iff_eq, bne_iff_ne, beq_eq_false_iff_ne, bne_eq_false_iff_eq, Bool.not_eq_true, Bool.not_eq_false, eq_u32, ne_u32] at hb
    simp -implicitDefEqProofs (maxSteps := 500000) (disch := first | decide | omega) only [↓preS, ↓reduceIte, allS, Nat.reduceBEq, Nat.reduceAdd, Nat.reduceEqDiff, reduceIte, Int.reduceToNat, Int.reduceLE, Int.reduceLT, Nat.reduceLeDiff, Nat.reduceMul, Nat.reducePow, Nat.reduceLT, Int.reduceBEq, Int.reduceBNe, Int.reduceAdd, Int.reduceSub, Int.reduceMul, Int.reduceGT, Int.reduceGE, decS, Int.reduceNe, Int.reduceEq]
    have hk' : k < ls.length := by omega
    have e : tot (ls.take k) + (ls.getD k default).length = tot (ls.take (k + 1)) := by
      unfold tot
      rw [List.take_succ_eq_append_getElem hk', List.flatten_append, List.length_append, List.getD_eq_getElem?_getD, List.getElem?_eq_getElem hk']
      simp
    have hle2 : tot (ls.take (k + 1)) ≤ tot ls := by
      have := congrArg (fun x => (List.flatten x).length) (List.take_append_drop (k + 1) ls)
      simp only [List.flatten_append, List.length_append] at this
      unfold tot
      omega
    refine ⟨by omega, by omega, ?_⟩
    simp -implicitDefEqProofs (maxSteps := 500000) (disch := first | decide | omega) only [↓preS, ↓reduceIte, allS, Nat.reduceBEq, Nat.reduceAdd, Nat.reduceEqDiff, reduceIte, Int.reduceToNat, Int.reduceLE, Int.reduceLT, Nat.reduceLeDiff, Nat.reduceMul, Nat.reducePow, Nat.reduceLT, Int.reduceBEq, Int.reduceBNe, Int.reduceAdd, Int.reduceSub, Int.reduceMul, Int.reduceGT, Int.reduceGE, decS, Int.reduceNe, Int.reduceEq]
    refine ⟨k + 1, ?_, by omega, by omega⟩
    rw [← e]
    rfl
  · simp (disch := omega) only [decide_eq_true_eq, decide_eq_false_iff_not, wrap_i64, beq_iff_eq, bne_iff_ne, beq_eq_false_iff_ne, bne_eq_false_iff_eq, Bool.not_eq_true, Bool.not_eq_false, eq_u32, ne_u32] at hb
    simp -implicitDefEqProofs (maxSteps := 500000) (disch := first | decide | omega) only [↓preS, ↓reduceIte, allS, Nat.reduceBEq, Nat.reduceAdd, Nat.reduceEqDiff, reduceIte, Int.reduceToNat, Int.reduceLE, Int.reduceLT, Nat.reduceLeDiff, Nat.reduceMul, Nat.reducePow, Nat.reduceLT, Int.reduceBEq, Int.reduceBNe, Int.reduceAdd, Int.reduceSub, Int.reduceMul, Int.reduceGT, Int.reduceGE, decS, Int.reduceNe, Int.reduceEq]
    have : k = ls.length := by omega
    subst this
    rw [List.take_length]
    exact h
theorem flat_take {α : Type} (ls : List (List α)) (k : Nat) (hk : k < ls.length) : (ls.take (k + 1)).flatten = (ls.take k).flatten ++ ls.getD k default := by
  rw [List.take_succ_eq_append_getElem hk, List.flatten_append, List.getD_eq_getElem?_getD, List.getElem?_eq_getElem hk]
  simp
theorem flat_take_le {α : Type} (ls : List (List α)) (k : Nat) : (ls.take k).flatten.length ≤ ls.flatten.length := by
  have := congrArg (fun x => (List.flatten x).length) (List.take_append_drop k ls)
  simp only [List.flatten_append, List.length_append] at this
  omega
theorem loop30b (t : Bool) (ls : List (List UInt8)) (hl : ls.length ≤ 2 ^ 40) (hs : ls.flatten.length ≤ 2 ^ 40) (s6 : AV) (H0 : List AO) (h0 : (s6 = .nils ∧ H0 = []) ∨ ∃ l, s6 = .own 0 1 0 0 ∧ H0 = [.arr 1 l])
    (Q : AE → St → Prop) (h : ∀ l n, n ≤ l.length → l.take n = ls.flatten.map U8 → Q .normal ⟨[(6, .own 0 1 0 n)], [.arr 1 l]⟩) :
    aw Try.prog cc30L0 Q ⟨[(6, s6), (25, .sl t 1 (ls.map SB)), (26, .int .i64 ls.length), (27, .int .i64 0)], H0⟩ := by
  unfold cc30L0
  simp -implicitDefEqProofs (maxSteps := 500000) (disch := first | decide | omega) only [↓preS, ↓reduceIte, allS, Nat.reduceBEq, Nat.reduceAdd, Nat.reduceEqDiff, reduceIte, Int.reduceToNat, Int.reduceLE, Int.reduceLT, Nat.reduceLeDiff, Nat.reduceMul, Nat.reducePow, Nat.reduceLT, Int.reduceBEq, Int.reduceBNe, Int.reduceAdd, Int.reduceSub, Int.reduceMul, Int.reduceGT, Int.reduceGE, decS, Int.reduceNe, Int.reduceEq]
  refine aw_loopS (σ := Nat × Nat × List AV) (fun i => ⟨[(6, .own 0 1 0 i.2.1), (25, .sl t 1 (ls.map SB)), (26, .int .i64 ls.length), (27, .int .i64 (i.1 : Int))], [.arr 1 i.2.2]⟩)
    (fun i => i.1 ≤ ls.length ∧ i.2.1 ≤ i.2.2.length ∧ i.2.2.take i.2.1 = (ls.take i.1).flatten.map U8) (fun i => ls.length - i.1) (0, 0, H0.flatMap fun o => match o with | .arr _ l => l | _ => []) ?_ (by simp) ?_
  · rcases h0 with ⟨rfl, rfl⟩ | ⟨l, rfl, rfl⟩
    · (refine Sub.ofL [none] rfl (by simp) (by decide) (by simp [partL, AO.ro, AV.ro, AV.roL, names, AO.empty, SB, U8, SI, I64, STR] <;> (try and_intros) <;> rfl) (by simp [AO.bo, AV.bo, AV.boL, names] <;> (try and_intros) <;> rfl) ?_ <;> (try simp only [List.map_cons, List.map_nil, regsL, AV.ro, AV.roL, AV.bo, AV.boL, names, get_here, get_there, Nat.reduceBEq, List.getD_cons_zero, List.getD_cons_succ, List.getD_nil, and_true, true_and, Nat.reduceLT, List.length_cons, List.length_nil, Nat.reduceAdd, decide_true, Option.isSome_some, Bool.true_or, Bool.and_self, Option.isSome_none, Bool.false_or, beq_self_eq_true, wk0_self, wk0_nils]) <;> (try and_intros) <;> (first | done | rfl | exact .inl rfl | exact .inr ⟨rfl, _, _, rfl⟩ | (simp; done) | (simp; omega) | (refine .inl ?_; simp; done) | (refine .inl ?_; simp; omega)))
    · (refine Sub.ofL [some 0] rfl (by simp) (by decide) (by simp [partL, AO.ro, AV.ro, AV.roL, names, AO.empty, SB, U8, SI, I64, STR] <;> (try and_intros) <;> rfl) (by simp [AO.bo, AV.bo, AV.boL, names] <;> (try and_intros) <;> rfl) ?_ <;> (try simp only [List.map_cons, List.map_nil, regsL, AV.ro, AV.roL, AV.bo, AV.boL, names, get_here, get_there, Nat.reduceBEq, List.getD_cons_zero, List.getD_cons_succ, List.getD_nil, and_true, true_and, Nat.reduceLT, List.length_cons, List.length_nil, Nat.reduceAdd, decide_true, Option.isSome_some, Bool.true_or, Bool.and_self, Option.isSome_none, Bool.false_or, beq_self_eq_true, wk0_self, wk0_nils]) <;> (try and_intros) <;> (first | done | rfl | exact .inl rfl | exact .inr ⟨rfl, _, _, rfl⟩ | (simp; done) | (simp; omega) | (refine .inl ?_; simp; done) | (refine .inl ?_; simp; omega)))
  rintro ⟨k, n, l⟩ ⟨hk, hn, hl2⟩
  simp only at hk hn hl2
  have hlen := congrArg List.length hl2
  simp only [List.length_take, List.length_map] at hlen
  have hle := flat_take_le ls k
  unfold cc30l0
  simp -implicitDefEqProofs (maxSteps := 500000) (disch := first | decide | omega) only [↓preS, ↓reduceIte, allS, Nat.reduceBEq, Nat.reduceAdd, Nat.reduceEqDiff, reduceIte, Int.reduceToNat, Int.reduceLE, Int.reduceLT, Nat.reduceLeDiff, Nat.reduceMul, Nat.reducePow, Nat.reduceLT, Int.reduceBEq, Int.reduceBNe, Int.reduceAdd, Int.reduceSub, Int.reduceMul, Int.reduceGT, Int.reduceGE, decS, Int.reduceNe, Int.reduceEq]
  refine cK_split (fun hb => ?_) (fun hb => ?_)
  · simp (disch := omega) only [decide_eq_true_eq, decide_eq_false_iff_not, wrap_i64, beq_iff_eq, bne_iff_ne, beq_eq_false_iff_ne, bne_eq_false_iff_eq, Bool.not_eq_true, Bool.not_eq_false, eq_u32, ne_u32] at hb
    have hk' : k < ls.length := by omega
    have hf := flat_take ls k hk'
    have hle2 := flat_take_le ls (k + 1)
    have hlen2 := congrArg List.length hf
    simp only [List.length_append] at hlen2
    simp -implicitDefEqProofs (maxSteps := 500000) (disch := first | decide | omega) only [↓preS, ↓reduceIte, allS, Nat.reduceBEq, Nat.reduceAdd, Nat.reduceEqDiff, reduceIte, Int.reduceToNat, Int.reduceLE, Int.reduceLT, Nat.reduceLeDiff, Nat.reduceMul, Nat.reducePow, Nat.reduceLT, Int.reduceBEq, Int.reduceBNe, Int.reduceAdd, Int.reduceSub, Int.reduceMul, Int.reduceGT, Int.reduceGE, decS, Int.reduceNe, Int.reduceEq, hn]
    refine ⟨by omega, by omega, ⟨by omega, by omega⟩, (k + 1, min n l.length + (ls.getD k default).length, l.take n ++ (ls.getD k default).map U8), ?_, ⟨by simp only; omega, by simp, ?_⟩, by simp only; omega⟩
    · (refine Sub.ofL [some 1] rfl (by simp) (by decide) (by simp [partL, AO.ro, AV.ro, AV.roL, names, AO.empty, SB, U8, SI, I64, STR] <;> (try and_intros) <;> rfl) (by simp [AO.bo, AV.bo, AV.boL, names] <;> (try and_intros) <;> rfl) ?_ <;> (try simp only [List.map_cons, List.map_nil, regsL, AV.ro, AV.roL, AV.bo, AV.boL, names, get_here, get_there, Nat.reduceBEq, List.getD_cons_zero, List.getD_cons_succ, List.getD_nil, and_true, true_and, Nat.reduceLT, List.length_cons, List.length_nil, Nat.reduceAdd, decide_true, Option.isSome_some, Bool.true_or, Bool.and_self, Option.isSome_none, Bool.false_or, beq_self_eq_true, wk0_self, wk0_nils]) <;> (try and_intros) <;> (first | done | rfl | exact .inl rfl | exact .inr ⟨rfl, _, _, rfl⟩ | (simp; done) | (simp; omega) | (refine .inl ?_; simp; done) | (refine .inl ?_; simp; omega)))
    · simp only
      rw [List.take_of_length_le (by simp), hf, List.map_append, hl2]
  · simp (disch := omega) only [decide_eq_true_eq, decide_eq_false_iff_not, wrap_i64, beq_iff_eq, bne_iff_ne, beq_eq_false_iff_ne, bne_eq_false_iff_eq, Bool.not_eq_true, Bool.not_eq_false, eq_u32, ne_u32] at hb
    simp -implicitDefEqProofs (maxSteps := 500000) (disch := first | decide | omega) only [↓preS, ↓reduceIte, allS, Nat.reduceBEq, Nat.reduceAdd, Nat.reduceEqDiff, reduceIte, Int.reduceToNat, Int.reduceLE, Int.reduceLT, Nat.reduceLeDiff, Nat.reduceMul, Nat.reducePow, Nat.reduceLT, Int.reduceBEq, Int.reduceBNe, Int.reduceAdd, Int.reduceSub, Int.reduceMul, Int.reduceGT, Int.reduceGE, decS, Int.reduceNe, Int.reduceEq]
    have : k = ls.length := by omega
    subst this
    rw [List.take_length] at hl2
    exact h _ _ hn hl2
theorem concat_ok (t : Bool) (ls : List (List UInt8)) (hl : ls.length ≤ 2 ^ 40) (hs : ls.flatten.length ≤ 2 ^ 40) : ACall Try.prog 30 [.sl t 1 (ls.map SB)] [] fun y H' => ∃ l n, y = .own 0 1 0 n ∧ H' = [.arr 1 l] ∧ n ≤ l.length ∧ l.take n = ls.flatten.map U8 := by
  refine acall_of is30 (by simp) ?_
  unfold cc30
  simp -implicitDefEqProofs (maxSteps := 500000) (disch := first | decide | omega) only [↓preS, ↓reduceIte, allS, Nat.reduceBEq, Nat.reduceAdd, Nat.reduceEqDiff, reduceIte, Int.reduceToNat, Int.reduceLE, Int.reduceLT, Nat.reduceLeDiff, Nat.reduceMul, Nat.reducePow, Nat.reduceLT, Int.reduceBEq, Int.reduceBNe, Int.reduceAdd, Int.reduceSub, Int.reduceMul, Int.reduceGT, Int.reduceGE, decS, Int.reduceNe, Int.reduceEq]
  refine loop30a _ t ls hl hs _ ?_
  simp -implicitDefEqProofs (maxSteps := 500000) (disch := first | decide | omega) only [↓preS, ↓reduceIte, allS, Nat.reduceBEq, Nat.reduceAdd, Nat.reduceEqDiff, reduceIte, Int.reduceToNat, Int.reduceLE, Int.reduceLT, Nat.reduceLeDiff, Nat.reduceMul, Nat.reducePow, Nat.reduceLT, Int.reduceBEq, Int.reduceBNe, Int.reduceAdd, Int.reduceSub, Int.reduceMul, Int.reduceGT, Int.reduceGE, decS, Int.reduceNe, Int.reduceEq]
  refine ACall.to (grow_ok (tot ls) (by omega) (by unfold tot; omega)) ?_
  intro y G hy
  have key : ∀ s6 H0, ((s6 = AV.nils ∧ H0 = []) ∨ ∃ l, s6 = .own 0 1 0 0 ∧ H0 = [.arr 1 l]) → ∀ Q : AE → St → Prop, (∀ l n, n ≤ l.length → l.take n = ls.flatten.map U8 → Q .normal ⟨[(6, .own 0 1 0 n)], [.arr 1 l]⟩) → aw Try.prog cc30L0 Q ⟨[(6, s6), (25, .sl t 1 (ls.map SB)), (26, .int .i64 ls.length), (27, .int .i64 0)], H0⟩ :=
    fun s6 H0 h0 Q h => loop30b t ls hl hs s6 H0 h0 Q h
  rcases hy with ⟨rfl, rfl⟩ | ⟨l, rfl, rfl⟩ <;> simp -implicitDefEqProofs (maxSteps := 500000) (disch := first | decide | omega) only [↓preS, ↓reduceIte, allS, Nat.reduceBEq, Nat.reduceAdd, Nat.reduceEqDiff, reduceIte, Int.reduceToNat, Int.reduceLE, Int.reduceLT, Nat.reduceLeDiff, Nat.reduceMul, Nat.reducePow, Nat.reduceLT, Int.reduceBEq, Int.reduceBNe, Int.reduceAdd, Int.reduceSub, Int.reduceMul, Int.reduceGT, Int.reduceGE, decS, Int.reduceNe, Int.reduceEq]
  · refine key _ _ (.inl ⟨rfl, rfl⟩) _ fun l n hn h => ?_
    simp -implicitDefEqProofs (maxSteps := 500000) (disch := first | decide | omega) only [↓preS, ↓reduceIte, allS, Nat.reduceBEq, Nat.reduceAdd, Nat.reduceEqDiff, reduceIte, Int.reduceToNat, Int.reduceLE, Int.reduceLT, Nat.reduceLeDiff, Nat.reduceMul, Nat.reducePow, Nat.reduceLT, Int.reduceBEq, Int.reduceBNe, Int.reduceAdd, Int.reduceSub, Int.reduceMul, Int.reduceGT, Int.reduceGE, decS, Int.reduceNe, Int.reduceEq]
    exact ⟨_, _, rfl, rfl, hn, h⟩
  · refine key _ _ (.inr ⟨_, rfl, rfl⟩) _ fun l n hn h => ?_
    simp -implicitDefEqProofs (maxSteps := 500000) (disch := first | decide | omega) only [↓preS, ↓reduceIte, allS, Nat.reduceBEq, Nat.reduceAdd, Nat.reduceEqDiff, reduceIte, Int.reduceToNat, Int.reduceLE, Int.reduceLT, Nat.reduceLeDiff, Nat.reduceMul, Nat.reducePow, Nat.reduceLT, Int.reduceBEq, Int.reduceBNe, Int.reduceAdd, Int.reduceSub, Int.reduceMul, Int.reduceGT, Int.reduceGE, decS, Int.reduceNe, Int.reduceEq]
    exact ⟨_, _, rfl, rfl, hn, h⟩
theorem acK_concat {t : Bool} (ls : List (List UInt8)) {H : List AO} {K Kp : AV → List AO → Prop} (hl : ls.length ≤ 2 ^ 40) (hs : ls.flatten.length ≤ 2 ^ 40)
    (hk : ∀ l n, n ≤ l.length → l.take n = ls.flatten.map U8 → K (.own (H.length + 0) 1 0 n) (H ++ [.arr 1 l])) : acK Try.prog 30 [.sl t 1 (ls.map SB)] H K Kp :=
  acK_new (concat_ok t ls hl hs) rfl rfl fun y G ⟨l, n, h1, h2, h3, h4⟩ => by subst h1 h2; exact hk l n h3 h4
theorem int_ok (l : List UInt8) (v : Int) (hl : l.length ≤ 2 ^ 32) : PCall Try.prog 10 [.sl false 1 (l.map U8), .int .i64 v] (SB (l ++ be 8 v)) := by
  unfold PCall
  refine acall_of is10 (by simp) ?_
  unfold cc10
  simp -implicitDefEqProofs (maxSteps := 500000) (disch := first | decide | omega) only [↓preS, ↓reduceIte, allS, Nat.reduceBEq, Nat.reduceAdd, Nat.reduceEqDiff, reduceIte, Int.reduceToNat, Int.reduceLE, Int.reduceLT, Nat.reduceLeDiff, Nat.reduceMul, Nat.reducePow, Nat.reduceLT, Int.reduceBEq, Int.reduceBNe, Int.reduceAdd, Int.reduceSub, Int.reduceMul, Int.reduceGT, Int.reduceGE, decS, Int.reduceNe, Int.reduceEq]
  refine acK_of (FCall.of (lent := false) (row_ok v 8 (by omega)) (.refl rfl) rfl (by simp)) ?_
  simp -implicitDefEqProofs (maxSteps := 500000) (disch := first | decide | omega) only [↓preS, ↓reduceIte, allS, Nat.reduceBEq, Nat.reduceAdd, Nat.reduceEqDiff, reduceIte, Int.reduceToNat, Int.reduceLE, Int.reduceLT, Nat.reduceLeDiff, Nat.reduceMul, Nat.reducePow, Nat.reduceLT, Int.reduceBEq, Int.reduceBNe, Int.reduceAdd, Int.reduceSub, Int.reduceMul, Int.reduceGT, Int.reduceGE, decS, Int.reduceNe, Int.reduceEq, SB]
  refine acK_concat [l, be 8 v] (by simp) (by simp [be_len]; omega) fun q n hq he => ?_
  simp -implicitDefEqProofs (maxSteps := 500000) (disch := first | decide | omega) only [↓preS, ↓reduceIte, allS, Nat.reduceBEq, Nat.reduceAdd, Nat.reduceEqDiff, reduceIte, Int.reduceToNat, Int.reduceLE, Int.reduceLT, Nat.reduceLeDiff, Nat.reduceMul, Nat.reducePow, Nat.reduceLT, Int.reduceBEq, Int.reduceBNe, Int.reduceAdd, Int.reduceSub, Int.reduceMul, Int.reduceGT, Int.reduceGE, decS, Int.reduceNe, Int.reduceEq, hq, he]
  simp
end Go.Proofs.Ytbnnlhlmfcbaeaa
