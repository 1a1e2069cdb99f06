/- What functions of the program compute. No condition. -/
import Derived.Test.YtgpipheibnlkhaaWBc
set_option linter.unusedSimpArgs false
set_option linter.unusedVariables false
namespace Go.Proofs.Ytgpipheibnlkhaa
open Go Go.Ab

/-- What the reference's Reader holds: B whole, s what is left. -/
def XO (B : List UInt8) (p : Nat) (e : Int) : AO := .box [.sl false 1 (B.map U8), .int .i64 (p : Int), .int .i64 e]
def XS (B : List UInt8) (s : RS) : AO := XO B (B.length - s.b.length) s.e
def Suf (B : List UInt8) (s : RS) : Prop := ∃ p, p ≤ B.length ∧ s.b = B.drop p
theorem suf_drop {B : List UInt8} {s : RS} (h : Suf B s) (n : Nat) (hn : n ≤ s.b.length) (e : Int) : Suf B ⟨s.b.drop n, e⟩ := by
  obtain ⟨p, h1, h2⟩ := h
  rw [h2, List.length_drop] at hn
  exact ⟨p + n, by omega, by simp only; rw [h2, List.drop_drop]⟩

theorem newx_ok (B : List UInt8) : ACall Try.prog 51 [.sl false 1 (B.map U8)] [] fun y H' => y = .ref 0 0 0 ∧ H' = [XS B ⟨B, 0⟩] := by
  refine acall_of is51 (by simp) ?_
  unfold cc51 XS XO
  simp -implicitDefEqProofs (maxSteps := 500000) (disch := first | decide | omega) only [↓preS, ↓reduceIte, allS, Nat.reduceBEq, Nat.reduceAdd, Nat.reduceEqDiff, reduceIte, Int.reduceToNat, Int.reduceLE, Int.reduceLT, Nat.reduceLeDiff, Nat.reduceMul, Nat.reducePow, Nat.reduceLT, Int.reduceBEq, Int.reduceBNe, Int.reduceAdd, Int.reduceSub, Int.reduceMul, Int.reduceGT, Int.reduceGE, decS, Int.reduceNe, Int.reduceEq, partOf]
  exact ⟨rfl, rfl, rfl⟩

def hasR (s : RS) (n : Nat) : Bool × RS := if s.e = 0 then (if n ≤ s.b.length then (true, s) else (false, ⟨s.b, 8⟩)) else (false, s)

theorem has_ok (B : List UInt8) (hB : B.length < 2 ^ 62) (s : RS) (hs : Suf B s) (n : Nat) : ACall Try.prog 73 [.ref 0 0 0, .int .i64 (n : Int)] [XS B s] fun y H' => y = .bool (hasR s n).1 ∧ H' = [XS B (hasR s n).2] := by
  obtain ⟨l, e⟩ := s
  obtain ⟨p, hp, hl⟩ := hs
  simp only at hl
  have hll : l.length = B.length - p := by rw [hl, List.length_drop]
  have hpl : B.length - l.length = p := by omega
  refine acall_at is73 (by simp) rfl ?_
  unfold cc73 XS XO
  simp only [hpl]
  by_cases he : e = 0
  · subst he
    by_cases hn : n ≤ l.length
    · simp -implicitDefEqProofs (maxSteps := 500000) (disch := first | decide | omega) only [↓preS, ↓reduceIte, allS, Nat.reduceBEq, Nat.reduceAdd, Nat.reduceEqDiff, reduceIte, Int.reduceToNat, Int.reduceLE, Int.reduceLT, Nat.reduceLeDiff, Nat.reduceMul, Nat.reducePow, Nat.reduceLT, Int.reduceBEq, Int.reduceBNe, Int.reduceAdd, Int.reduceSub, Int.reduceMul, Int.reduceGT, Int.reduceGE, decS, Int.reduceNe, Int.reduceEq, partOf]
      have h1 : decide ((B.length : Int) - p < n) = false := by rw [decide_eq_false_iff_not]; omega
      simp only [hasR, if_true, hn, hpl, and_true, true_and]
    · simp -implicitDefEqProofs (maxSteps := 500000) (disch := first | decide | omega) only [↓preS, ↓reduceIte, allS, Nat.reduceBEq, Nat.reduceAdd, Nat.reduceEqDiff, reduceIte, Int.reduceToNat, Int.reduceLE, Int.reduceLT, Nat.reduceLeDiff, Nat.reduceMul, Nat.reducePow, Nat.reduceLT, Int.reduceBEq, Int.reduceBNe, Int.reduceAdd, Int.reduceSub, Int.reduceMul, Int.reduceGT, Int.reduceGE, decS, Int.reduceNe, Int.reduceEq, partOf]
      have h1 : decide ((B.length : Int) - p < n) = true := by rw [decide_eq_true_eq]; omega
      simp only [hasR, if_true, hn, hpl, if_false, and_true, true_and]
  · simp -implicitDefEqProofs (maxSteps := 500000) (disch := first | decide | omega) only [↓preS, ↓reduceIte, allS, Nat.reduceBEq, Nat.reduceAdd, Nat.reduceEqDiff, reduceIte, Int.reduceToNat, Int.reduceLE, Int.reduceLT, Nat.reduceLeDiff, Nat.reduceMul, Nat.reducePow, Nat.reduceLT, Int.reduceBEq, Int.reduceBNe, Int.reduceAdd, Int.reduceSub, Int.reduceMul, Int.reduceGT, Int.reduceGE, decS, Int.reduceNe, Int.reduceEq, partOf]
    simp only [hasR, he, if_false, hpl]
    trivial

theorem end_x (B : List UInt8) (hB : B.length < 2 ^ 62) (s : RS) (hs : Suf B s) : ACall Try.prog 55 [.ref 0 0 0] [XS B s] fun y H' => y = .int .i64 (if s.e = 0 ∧ 0 < s.b.length then 9 else s.e) ∧ H' = [XS B s] := by
  obtain ⟨l, e⟩ := s
  obtain ⟨p, hp, hl⟩ := hs
  simp only at hl
  have hll : l.length = B.length - p := by rw [hl, List.length_drop]
  have hpl : B.length - l.length = p := by omega
  refine acall_at is55 (by simp) rfl ?_
  unfold cc55 XS XO
  simp only [hpl]
  by_cases he : e = 0
  · subst he
    by_cases hn : 0 < l.length
    · simp -implicitDefEqProofs (maxSteps := 500000) (disch := first | decide | omega) only [↓preS, ↓reduceIte, allS, Nat.reduceBEq, Nat.reduceAdd, Nat.reduceEqDiff, reduceIte, Int.reduceToNat, Int.reduceLE, Int.reduceLT, Nat.reduceLeDiff, Nat.reduceMul, Nat.reducePow, Nat.reduceLT, Int.reduceBEq, Int.reduceBNe, Int.reduceAdd, Int.reduceSub, Int.reduceMul, Int.reduceGT, Int.reduceGE, decS, Int.reduceNe, Int.reduceEq, partOf]
      rw [if_pos hn]
    · simp -implicitDefEqProofs (maxSteps := 500000) (disch := first | decide | omega) only [↓preS, ↓reduceIte, allS, Nat.reduceBEq, Nat.reduceAdd, Nat.reduceEqDiff, reduceIte, Int.reduceToNat, Int.reduceLE, Int.reduceLT, Nat.reduceLeDiff, Nat.reduceMul, Nat.reducePow, Nat.reduceLT, Int.reduceBEq, Int.reduceBNe, Int.reduceAdd, Int.reduceSub, Int.reduceMul, Int.reduceGT, Int.reduceGE, decS, Int.reduceNe, Int.reduceEq, partOf]
      rw [if_neg hn]
  · simp -implicitDefEqProofs (maxSteps := 500000) (disch := first | decide | omega) only [↓preS, ↓reduceIte, allS, Nat.reduceBEq, Nat.reduceAdd, Nat.reduceEqDiff, reduceIte, Int.reduceToNat, Int.reduceLE, Int.reduceLT, Nat.reduceLeDiff, Nat.reduceMul, Nat.reducePow, Nat.reduceLT, Int.reduceBEq, Int.reduceBNe, Int.reduceAdd, Int.reduceSub, Int.reduceMul, Int.reduceGT, Int.reduceGE, decS, Int.reduceNe, Int.reduceEq, partOf]
    rw [if_neg (fun h => he h.1)]

theorem fail_x (B : List UInt8) (s : RS) (v : Int) : ACall Try.prog 53 [.ref 0 0 0, .int .i64 v] [XS B s] fun y H' => y = .tup [] ∧ H' = [XS B ⟨s.b, if s.e = 0 then v else s.e⟩] := by
  refine acall_at is53 (by simp) rfl ?_
  unfold cc53 XS XO
  simp -implicitDefEqProofs (maxSteps := 500000) (disch := first | decide | omega) only [↓preS, ↓reduceIte, allS, Nat.reduceBEq, Nat.reduceAdd, Nat.reduceEqDiff, reduceIte, Int.reduceToNat, Int.reduceLE, Int.reduceLT, Nat.reduceLeDiff, Nat.reduceMul, Nat.reducePow, Nat.reduceLT, Int.reduceBEq, Int.reduceBNe, Int.reduceAdd, Int.reduceSub, Int.reduceMul, Int.reduceGT, Int.reduceGE, decS, Int.reduceNe, Int.reduceEq, partOf]
  refine cK_split (fun hb => ?_) (fun hb => ?_)
  · simp (disch := omega) only [decide_eq_true_eq, decide_eq_false_iff_not, wrap_i64, beq_iff_eq, bne_iff_ne, beq_eq_false_iff_ne, bne_eq_false_iff_eq, Bool.not_eq_true, Bool.not_eq_false, eq_u32, ne_u32] at hb
    simp -implicitDefEqProofs (maxSteps := 500000) (disch := first | decide | omega) only [↓preS, ↓reduceIte, allS, Nat.reduceBEq, Nat.reduceAdd, Nat.reduceEqDiff, reduceIte, Int.reduceToNat, Int.reduceLE, Int.reduceLT, Nat.reduceLeDiff, Nat.reduceMul, Nat.reducePow, Nat.reduceLT, Int.reduceBEq, Int.reduceBNe, Int.reduceAdd, Int.reduceSub, Int.reduceMul, Int.reduceGT, Int.reduceGE, decS, Int.reduceNe, Int.reduceEq, partOf]
    rw [if_pos hb]
  · simp (disch := omega) only [decide_eq_true_eq, decide_eq_false_iff_not, wrap_i64, beq_iff_eq, bne_iff_ne, beq_eq_false_iff_ne, bne_eq_false_iff_eq, Bool.not_eq_true, Bool.not_eq_false, eq_u32, ne_u32] at hb
    simp -implicitDefEqProofs (maxSteps := 500000) (disch := first | decide | omega) only [↓preS, ↓reduceIte, allS, Nat.reduceBEq, Nat.reduceAdd, Nat.reduceEqDiff, reduceIte, Int.reduceToNat, Int.reduceLE, Int.reduceLT, Nat.reduceLeDiff, Nat.reduceMul, Nat.reducePow, Nat.reduceLT, Int.reduceBEq, Int.reduceBNe, Int.reduceAdd, Int.reduceSub, Int.reduceMul, Int.reduceGT, Int.reduceGE, decS, Int.reduceNe, Int.reduceEq, partOf]
    rw [if_neg hb]

theorem loop21 (B : List UInt8) (hB : B.length < 2 ^ 62) (p : Nat) (hp : p + 8 ≤ B.length) (e : Int) (Q : AE → St → Prop)
    (h : Q .normal ⟨[(0, .ref 0 0 0), (3, .int .u64 ((numB ((B.drop p).take 8)).toNat : Int))], [XO B p e]⟩) :
    aw Try.prog cc52L0 Q ⟨[(0, .ref 0 0 0), (3, .int .u64 0), (4, .int .i64 0)], [XO B p e]⟩ := by
  unfold cc52L0
  simp -implicitDefEqProofs (maxSteps := 500000) (disch := first | decide | omega) only [↓preS, ↓reduceIte, allS, Nat.reduceBEq, Nat.reduceAdd, Nat.reduceEqDiff, reduceIte, Int.reduceToNat, Int.reduceLE, Int.reduceLT, Nat.reduceLeDiff, Nat.reduceMul, Nat.reducePow, Nat.reduceLT, Int.reduceBEq, Int.reduceBNe, Int.reduceAdd, Int.reduceSub, Int.reduceMul, Int.reduceGT, Int.reduceGE, decS, Int.reduceNe, Int.reduceEq]
  refine aw_loop (σ := Nat) (fun i => ⟨[(0, .ref 0 0 0), (3, .int .u64 ((numB ((B.drop p).take i)).toNat : Int)), (4, .int .i64 (i : Int))], [XO B p e]⟩) (fun i => i ≤ 8) (fun i => 8 - i) 0 rfl (by simp) ?_
  intro k hk
  unfold cc52l0 XO
  simp -implicitDefEqProofs (maxSteps := 500000) (disch := first | decide | omega) only [↓preS, ↓reduceIte, allS, Nat.reduceBEq, Nat.reduceAdd, Nat.reduceEqDiff, reduceIte, Int.reduceToNat, Int.reduceLE, Int.reduceLT, Nat.reduceLeDiff, Nat.reduceMul, Nat.reducePow, Nat.reduceLT, Int.reduceBEq, Int.reduceBNe, Int.reduceAdd, Int.reduceSub, Int.reduceMul, Int.reduceGT, Int.reduceGE, decS, Int.reduceNe, Int.reduceEq]
  refine cK_split (fun hb => ?_) (fun hb => ?_)
  · simp (disch := omega) only [decide_eq_true_eq, decide_eq_false_iff_not, wrap_i64, beq_iff_eq, bne_iff_ne, beq_eq_false_iff_ne, bne_eq_false_iff_eq, Bool.not_eq_true, Bool.not_eq_false, eq_u32, ne_u32] at hb
    have e0 : (p : Int) + k = ((p + k : Nat) : Int) := by omega
    have e1 : numB ((B.drop p).take (k + 1)) = (numB ((B.drop p).take k) <<< 8) ||| BitVec.ofInt 64 ((B.getD (p + k) default).toNat : Int) := by
      unfold numB
      have hk2 : k < (B.drop p).length := by rw [List.length_drop]; omega
      rw [List.take_succ_eq_append_getElem hk2, List.foldl_append, List.getD_eq_getElem?_getD, List.getElem?_eq_getElem (by omega), List.getElem_drop]
      rfl
    simp -implicitDefEqProofs (maxSteps := 500000) (disch := first | decide | omega) only [↓preS, ↓reduceIte, allS, Nat.reduceBEq, Nat.reduceAdd, Nat.reduceEqDiff, reduceIte, Int.reduceToNat, Int.reduceLE, Int.reduceLT, Nat.reduceLeDiff, Nat.reduceMul, Nat.reducePow, Nat.reduceLT, Int.reduceBEq, Int.reduceBNe, Int.reduceAdd, Int.reduceSub, Int.reduceMul, Int.reduceGT, Int.reduceGE, decS, Int.reduceNe, Int.reduceEq, partOf, e0]
    refine ⟨by omega, by omega, k + 1, ?_, by omega, by omega⟩
    rw [e1]
    rfl
  · simp (disch := omega) only [decide_eq_true_eq, decide_eq_false_iff_not, wrap_i64, beq_iff_eq, bne_iff_ne, beq_eq_false_iff_ne, bne_eq_false_iff_eq, Bool.not_eq_true, Bool.not_eq_false, eq_u32, ne_u32] at hb
    simp -implicitDefEqProofs (maxSteps := 500000) (disch := first | decide | omega) only [↓preS, ↓reduceIte, allS, Nat.reduceBEq, Nat.reduceAdd, Nat.reduceEqDiff, reduceIte, Int.reduceToNat, Int.reduceLE, Int.reduceLT, Nat.reduceLeDiff, Nat.reduceMul, Nat.reducePow, Nat.reduceLT, Int.reduceBEq, Int.reduceBNe, Int.reduceAdd, Int.reduceSub, Int.reduceMul, Int.reduceGT, Int.reduceGE, decS, Int.reduceNe, Int.reduceEq]
    have : k = 8 := by omega
    subst this
    exact h

theorem int_x (B : List UInt8) (hB : B.length < 2 ^ 62) (s : RS) (hs : Suf B s) : ACall Try.prog 52 [.ref 0 0 0] [XS B s] fun y H' => y = .int .i64 (intR s).1 ∧ H' = [XS B (intR s).2] := by
  refine acall_at is52 (by simp) rfl ?_
  unfold cc52
  simp -implicitDefEqProofs (maxSteps := 500000) (disch := first | decide | omega) only [↓preS, ↓reduceIte, allS, Nat.reduceBEq, Nat.reduceAdd, Nat.reduceEqDiff, reduceIte, Int.reduceToNat, Int.reduceLE, Int.reduceLT, Nat.reduceLeDiff, Nat.reduceMul, Nat.reducePow, Nat.reduceLT, Int.reduceBEq, Int.reduceBNe, Int.reduceAdd, Int.reduceSub, Int.reduceMul, Int.reduceGT, Int.reduceGE, decS, Int.reduceNe, Int.reduceEq]
  refine ACall.to (has_ok B hB s hs 8) ?_
  rintro y G ⟨rfl, rfl⟩
  obtain ⟨l, e⟩ := s
  obtain ⟨p, hp, hl⟩ := hs
  simp only at hl
  have hll : l.length = B.length - p := by rw [hl, List.length_drop]
  have hpl : B.length - l.length = p := by omega
  by_cases he : e = 0
  · subst he
    by_cases hn : 8 ≤ l.length
    · have h1 : hasR ⟨l, 0⟩ 8 = (true, ⟨l, 0⟩) := by simp [hasR, hn]
      rw [h1]
      simp -implicitDefEqProofs (maxSteps := 500000) (disch := first | decide | omega) only [↓preS, ↓reduceIte, allS, Nat.reduceBEq, Nat.reduceAdd, Nat.reduceEqDiff, reduceIte, Int.reduceToNat, Int.reduceLE, Int.reduceLT, Nat.reduceLeDiff, Nat.reduceMul, Nat.reducePow, Nat.reduceLT, Int.reduceBEq, Int.reduceBNe, Int.reduceAdd, Int.reduceSub, Int.reduceMul, Int.reduceGT, Int.reduceGE, decS, Int.reduceNe, Int.reduceEq]
      unfold XS
      simp only [hpl]
      refine loop21 B hB p (by omega) 0 _ ?_
      unfold XO
      have e2 : B.length - (l.drop 8).length = p + 8 := by rw [List.length_drop]; omega
      simp -implicitDefEqProofs (maxSteps := 500000) (disch := first | decide | omega) only [↓preS, ↓reduceIte, allS, Nat.reduceBEq, Nat.reduceAdd, Nat.reduceEqDiff, reduceIte, Int.reduceToNat, Int.reduceLE, Int.reduceLT, Nat.reduceLeDiff, Nat.reduceMul, Nat.reducePow, Nat.reduceLT, Int.reduceBEq, Int.reduceBNe, Int.reduceAdd, Int.reduceSub, Int.reduceMul, Int.reduceGT, Int.reduceGE, decS, Int.reduceNe, Int.reduceEq, partOf]
      simp only [intR, if_true, hn, e2]
      rw [← hl]
      exact ⟨rfl, rfl⟩
    · have h1 : hasR ⟨l, 0⟩ 8 = (false, ⟨l, 8⟩) := by simp [hasR, hn]
      rw [h1]
      simp -implicitDefEqProofs (maxSteps := 500000) (disch := first | decide | omega) only [↓preS, ↓reduceIte, allS, Nat.reduceBEq, Nat.reduceAdd, Nat.reduceEqDiff, reduceIte, Int.reduceToNat, Int.reduceLE, Int.reduceLT, Nat.reduceLeDiff, Nat.reduceMul, Nat.reducePow, Nat.reduceLT, Int.reduceBEq, Int.reduceBNe, Int.reduceAdd, Int.reduceSub, Int.reduceMul, Int.reduceGT, Int.reduceGE, decS, Int.reduceNe, Int.reduceEq]
      simp only [intR, if_true, hn, if_false]
      exact ⟨trivial, trivial⟩
  · have h1 : hasR ⟨l, e⟩ 8 = (false, ⟨l, e⟩) := by simp [hasR, he]
    rw [h1]
    simp -implicitDefEqProofs (maxSteps := 500000) (disch := first | decide | omega) only [↓preS, ↓reduceIte, allS, Nat.reduceBEq, Nat.reduceAdd, Nat.reduceEqDiff, reduceIte, Int.reduceToNat, Int.reduceLE, Int.reduceLT, Nat.reduceLeDiff, Nat.reduceMul, Nat.reducePow, Nat.reduceLT, Int.reduceBEq, Int.reduceBNe, Int.reduceAdd, Int.reduceSub, Int.reduceMul, Int.reduceGT, Int.reduceGE, decS, Int.reduceNe, Int.reduceEq]
    simp only [intR, he, if_false]
    exact ⟨trivial, trivial⟩

def twoR (s : RS) : Int × RS := if s.e = 0 then (if 2 ≤ s.b.length then (num (s.b.take 2), ⟨s.b.drop 2, 0⟩) else (0, ⟨s.b, 8⟩)) else (0, s)

theorem num_pair (l : List UInt8) (h : 2 ≤ l.length) : num (l.take 2) = IntKind.i64.wrap ((BitVec.ofInt 64 (((l.getD 0 default).toNat : Int) * 2 ^ min 8 64) ||| BitVec.ofInt 64 ((l.getD 1 default).toNat : Int)).toNat : Int) := by
  match l, h with
  | a :: b :: r, _ =>
    simp only [List.take_succ_cons, List.take_zero, List.getD_cons_zero, List.getD_cons_succ, num, numB, List.foldl_cons, List.foldl_nil]
    have e1 : (0 : BitVec 64) <<< 8 ||| BitVec.ofInt 64 (a.toNat : Int) = BitVec.ofInt 64 (a.toNat : Int) := by simp
    have e2 : BitVec.ofInt 64 (a.toNat : Int) <<< 8 = BitVec.ofInt 64 ((a.toNat : Int) * 2 ^ min 8 64) := by
      apply BitVec.eq_of_toNat_eq
      have := a.toNat_lt
      simp [BitVec.toNat_shiftLeft, BitVec.toNat_ofInt, Nat.shiftLeft_eq]
      omega
    rw [e1, e2]

theorem two_x (B : List UInt8) (hB : B.length < 2 ^ 62) (s : RS) (hs : Suf B s) : ACall Try.prog 77 [.ref 0 0 0] [XS B s] fun y H' => y = .int .i64 (twoR s).1 ∧ H' = [XS B (twoR s).2] := by
  refine acall_at is77 (by simp) rfl ?_
  unfold cc77
  simp -implicitDefEqProofs (maxSteps := 500000) (disch := first | decide | omega) only [↓preS, ↓reduceIte, allS, Nat.reduceBEq, Nat.reduceAdd, Nat.reduceEqDiff, reduceIte, Int.reduceToNat, Int.reduceLE, Int.reduceLT, Nat.reduceLeDiff, Nat.reduceMul, Nat.reducePow, Nat.reduceLT, Int.reduceBEq, Int.reduceBNe, Int.reduceAdd, Int.reduceSub, Int.reduceMul, Int.reduceGT, Int.reduceGE, decS, Int.reduceNe, Int.reduceEq]
  refine ACall.to (has_ok B hB s hs 2) ?_
  rintro y G ⟨rfl, rfl⟩
  obtain ⟨l, e⟩ := s
  obtain ⟨p, hp, hl⟩ := hs
  simp only at hl
  have hll : l.length = B.length - p := by rw [hl, List.length_drop]
  have hpl : B.length - l.length = p := by omega
  by_cases he : e = 0
  · subst he
    by_cases hn : 2 ≤ l.length
    · have h1 : hasR ⟨l, 0⟩ 2 = (true, ⟨l, 0⟩) := by simp [hasR, hn]
      rw [h1]
      simp -implicitDefEqProofs (maxSteps := 500000) (disch := first | decide | omega) only [↓preS, ↓reduceIte, allS, Nat.reduceBEq, Nat.reduceAdd, Nat.reduceEqDiff, reduceIte, Int.reduceToNat, Int.reduceLE, Int.reduceLT, Nat.reduceLeDiff, Nat.reduceMul, Nat.reducePow, Nat.reduceLT, Int.reduceBEq, Int.reduceBNe, Int.reduceAdd, Int.reduceSub, Int.reduceMul, Int.reduceGT, Int.reduceGE, decS, Int.reduceNe, Int.reduceEq]
      unfold XS XO
      simp only [hpl]
      have e2 : B.length - (l.drop 2).length = p + 2 := by rw [List.length_drop]; omega
      have e3 : (p : Int) + 2 - 2 = ((p : Nat) : Int) := by omega
      have e4 : (p : Int) + 2 - 1 = ((p + 1 : Nat) : Int) := by omega
      have g0 : B.getD p default = l.getD 0 default := by simp [hl]
      have g1 : B.getD (p + 1) default = l.getD 1 default := by simp [hl]
      have b0 := (B.getD p default).toNat_lt
      have b1 := (B.getD (p + 1) default).toNat_lt
      simp -implicitDefEqProofs (maxSteps := 500000) (disch := first | decide | omega) only [↓preS, ↓reduceIte, allS, Nat.reduceBEq, Nat.reduceAdd, Nat.reduceEqDiff, reduceIte, Int.reduceToNat, Int.reduceLE, Int.reduceLT, Nat.reduceLeDiff, Nat.reduceMul, Nat.reducePow, Nat.reduceLT, Int.reduceBEq, Int.reduceBNe, Int.reduceAdd, Int.reduceSub, Int.reduceMul, Int.reduceGT, Int.reduceGE, decS, Int.reduceNe, Int.reduceEq, partOf, e3, e4]
      simp only [twoR, if_true, hn, e2, num_pair l hn, ← g0, ← g1]
      generalize B.getD p default = x0 at b0 ⊢
      generalize B.getD (p + 1) default = x1 at b1 ⊢
      refine ⟨by omega, by omega, by omega, by omega, ?_⟩
      unfold ik
      simp only [IntKind.bits]
      have w1 : IntKind.i64.wrap (x0.toNat : Int) = x0.toNat := wrap_i64 (by omega) (by omega)
      have w2 : IntKind.i64.wrap (x1.toNat : Int) = x1.toNat := wrap_i64 (by omega) (by omega)
      have w3 : IntKind.i64.wrap ((x0.toNat : Int) * 2 ^ min 8 64) = (x0.toNat : Int) * 2 ^ min 8 64 := wrap_i64 (by simp; omega) (by simp; omega)
      simp -implicitDefEqProofs (maxSteps := 500000) (disch := first | decide | omega) only [↓preS, ↓reduceIte, allS, Nat.reduceBEq, Nat.reduceAdd, Nat.reduceEqDiff, reduceIte, Int.reduceToNat, Int.reduceLE, Int.reduceLT, Nat.reduceLeDiff, Nat.reduceMul, Nat.reducePow, Nat.reduceLT, Int.reduceBEq, Int.reduceBNe, Int.reduceAdd, Int.reduceSub, Int.reduceMul, Int.reduceGT, Int.reduceGE, decS, Int.reduceNe, Int.reduceEq, w1, w2, w3]
      exact ⟨rfl, rfl⟩
    · have h1 : hasR ⟨l, 0⟩ 2 = (false, ⟨l, 8⟩) := by simp [hasR, hn]
      rw [h1]
      simp -implicitDefEqProofs (maxSteps := 500000) (disch := first | decide | omega) only [↓preS, ↓reduceIte, allS, Nat.reduceBEq, Nat.reduceAdd, Nat.reduceEqDiff, reduceIte, Int.reduceToNat, Int.reduceLE, Int.reduceLT, Nat.reduceLeDiff, Nat.reduceMul, Nat.reducePow, Nat.reduceLT, Int.reduceBEq, Int.reduceBNe, Int.reduceAdd, Int.reduceSub, Int.reduceMul, Int.reduceGT, Int.reduceGE, decS, Int.reduceNe, Int.reduceEq]
      simp only [twoR, if_true, hn, if_false]
      exact ⟨trivial, trivial⟩
  · have h1 : hasR ⟨l, e⟩ 2 = (false, ⟨l, e⟩) := by simp [hasR, he]
    rw [h1]
    simp -implicitDefEqProofs (maxSteps := 500000) (disch := first | decide | omega) only [↓preS, ↓reduceIte, allS, Nat.reduceBEq, Nat.reduceAdd, Nat.reduceEqDiff, reduceIte, Int.reduceToNat, Int.reduceLE, Int.reduceLT, Nat.reduceLeDiff, Nat.reduceMul, Nat.reducePow, Nat.reduceLT, Int.reduceBEq, Int.reduceBNe, Int.reduceAdd, Int.reduceSub, Int.reduceMul, Int.reduceGT, Int.reduceGE, decS, Int.reduceNe, Int.reduceEq]
    simp only [twoR, he, if_false]
    exact ⟨trivial, trivial⟩

theorem text_x (B : List UInt8) (hB : B.length < 2 ^ 62) (s : RS) (hs : Suf B s) : ACall Try.prog 74 [.ref 0 0 0] [XS B s] fun y H' => y = .str (textR s).1 ∧ H' = [XS B (textR s).2] := by
  refine acall_at is74 (by simp) rfl ?_
  unfold cc74
  simp -implicitDefEqProofs (maxSteps := 500000) (disch := first | decide | omega) only [↓preS, ↓reduceIte, allS, Nat.reduceBEq, Nat.reduceAdd, Nat.reduceEqDiff, reduceIte, Int.reduceToNat, Int.reduceLE, Int.reduceLT, Nat.reduceLeDiff, Nat.reduceMul, Nat.reducePow, Nat.reduceLT, Int.reduceBEq, Int.reduceBNe, Int.reduceAdd, Int.reduceSub, Int.reduceMul, Int.reduceGT, Int.reduceGE, decS, Int.reduceNe, Int.reduceEq]
  refine ACall.to (two_x B hB s hs) ?_
  rintro y G ⟨rfl, rfl⟩
  obtain ⟨l, e⟩ := s
  by_cases he : e = 0
  · subst he
    by_cases hn : 2 ≤ l.length
    · obtain ⟨n, hn2, hn3⟩ := num_two (l.take 2) (by simp; omega)
      have h1 : twoR ⟨l, 0⟩ = ((n : Int), ⟨l.drop 2, 0⟩) := by simp [twoR, hn, hn2]
      have hs2 : Suf B ⟨l.drop 2, 0⟩ := suf_drop hs 2 hn 0
      rw [h1]
      simp -implicitDefEqProofs (maxSteps := 500000) (disch := first | decide | omega) only [↓preS, ↓reduceIte, allS, Nat.reduceBEq, Nat.reduceAdd, Nat.reduceEqDiff, reduceIte, Int.reduceToNat, Int.reduceLE, Int.reduceLT, Nat.reduceLeDiff, Nat.reduceMul, Nat.reducePow, Nat.reduceLT, Int.reduceBEq, Int.reduceBNe, Int.reduceAdd, Int.reduceSub, Int.reduceMul, Int.reduceGT, Int.reduceGE, decS, Int.reduceNe, Int.reduceEq]
      refine ACall.to (has_ok B hB _ hs2 n) ?_
      rintro y G ⟨rfl, rfl⟩
      by_cases hk : n ≤ (l.drop 2).length
      · have h3 : hasR ⟨l.drop 2, 0⟩ n = (true, ⟨l.drop 2, 0⟩) := by simp only [hasR, hk, if_true]
        rw [h3]
        simp -implicitDefEqProofs (maxSteps := 500000) (disch := first | decide | omega) only [↓preS, ↓reduceIte, allS, Nat.reduceBEq, Nat.reduceAdd, Nat.reduceEqDiff, reduceIte, Int.reduceToNat, Int.reduceLE, Int.reduceLT, Nat.reduceLeDiff, Nat.reduceMul, Nat.reducePow, Nat.reduceLT, Int.reduceBEq, Int.reduceBNe, Int.reduceAdd, Int.reduceSub, Int.reduceMul, Int.reduceGT, Int.reduceGE, decS, Int.reduceNe, Int.reduceEq]
        obtain ⟨p, hp, hl⟩ := hs2
        simp only at hl
        generalize hm : l.drop 2 = m at hl hk ⊢
        have hll : m.length = B.length - p := by rw [hl, List.length_drop]
        have hpl : B.length - m.length = p := by omega
        unfold XS XO
        simp only [hpl]
        have e2 : B.length - (m.drop n).length = p + n := by rw [List.length_drop]; omega
        have e3 : (p : Int) + n - n = ((p : Nat) : Int) := by omega
        have e4 : (p : Int) + n = ((p + n : Nat) : Int) := by omega
        simp -implicitDefEqProofs (maxSteps := 500000) (disch := first | decide | omega) only [↓preS, ↓reduceIte, allS, Nat.reduceBEq, Nat.reduceAdd, Nat.reduceEqDiff, reduceIte, Int.reduceToNat, Int.reduceLE, Int.reduceLT, Nat.reduceLeDiff, Nat.reduceMul, Nat.reducePow, Nat.reduceLT, Int.reduceBEq, Int.reduceBNe, Int.reduceAdd, Int.reduceSub, Int.reduceMul, Int.reduceGT, Int.reduceGE, decS, Int.reduceNe, Int.reduceEq, partOf, e3, e4]
        have e5 : ((p + n : Nat) : Int) - n = ((p : Nat) : Int) := by omega
        have e6 : List.drop p (List.take (p + n) B) = m.take n := by rw [hl, List.drop_take]; congr 1; omega
        rw [e5, Int.toNat_natCast, e6]
        have e7 : textR ⟨l, 0⟩ = (m.take n, ⟨m.drop n, 0⟩) := by simp only [textR, if_true, hn, hn2, Int.toNat_natCast, hm, hk]
        rw [e7]
        simp only [e2]
        exact ⟨by omega, by omega, by omega, by omega, trivial, trivial⟩
      · have h3 : hasR ⟨l.drop 2, 0⟩ n = (false, ⟨l.drop 2, 8⟩) := by simp only [hasR, hk, if_true, if_false]
        rw [h3]
        simp -implicitDefEqProofs (maxSteps := 500000) (disch := first | decide | omega) only [↓preS, ↓reduceIte, allS, Nat.reduceBEq, Nat.reduceAdd, Nat.reduceEqDiff, reduceIte, Int.reduceToNat, Int.reduceLE, Int.reduceLT, Nat.reduceLeDiff, Nat.reduceMul, Nat.reducePow, Nat.reduceLT, Int.reduceBEq, Int.reduceBNe, Int.reduceAdd, Int.reduceSub, Int.reduceMul, Int.reduceGT, Int.reduceGE, decS, Int.reduceNe, Int.reduceEq]
        simp only [textR, if_true, hn, hn2, Int.toNat_natCast, hk, if_false]
        exact ⟨by trivial, by trivial⟩
    · have h1 : twoR ⟨l, 0⟩ = (((0 : Nat) : Int), ⟨l, 8⟩) := by simp [twoR, hn]
      rw [h1]
      simp -implicitDefEqProofs (maxSteps := 500000) (disch := first | decide | omega) only [↓preS, ↓reduceIte, allS, Nat.reduceBEq, Nat.reduceAdd, Nat.reduceEqDiff, reduceIte, Int.reduceToNat, Int.reduceLE, Int.reduceLT, Nat.reduceLeDiff, Nat.reduceMul, Nat.reducePow, Nat.reduceLT, Int.reduceBEq, Int.reduceBNe, Int.reduceAdd, Int.reduceSub, Int.reduceMul, Int.reduceGT, Int.reduceGE, decS, Int.reduceNe, Int.reduceEq]
      refine ACall.to (has_ok B hB ⟨l, 8⟩ hs 0) ?_
      rintro y G ⟨rfl, rfl⟩
      have h3 : hasR ⟨l, 8⟩ 0 = (false, ⟨l, 8⟩) := by simp [hasR]
      rw [h3]
      simp -implicitDefEqProofs (maxSteps := 500000) (disch := first | decide | omega) only [↓preS, ↓reduceIte, allS, Nat.reduceBEq, Nat.reduceAdd, Nat.reduceEqDiff, reduceIte, Int.reduceToNat, Int.reduceLE, Int.reduceLT, Nat.reduceLeDiff, Nat.reduceMul, Nat.reducePow, Nat.reduceLT, Int.reduceBEq, Int.reduceBNe, Int.reduceAdd, Int.reduceSub, Int.reduceMul, Int.reduceGT, Int.reduceGE, decS, Int.reduceNe, Int.reduceEq]
      simp only [textR, if_true, hn, if_false]
      exact ⟨by trivial, by trivial⟩
  · have h1 : twoR ⟨l, e⟩ = (((0 : Nat) : Int), ⟨l, e⟩) := by simp [twoR, he]
    rw [h1]
    simp -implicitDefEqProofs (maxSteps := 500000) (disch := first | decide | omega) only [↓preS, ↓reduceIte, allS, Nat.reduceBEq, Nat.reduceAdd, Nat.reduceEqDiff, reduceIte, Int.reduceToNat, Int.reduceLE, Int.reduceLT, Nat.reduceLeDiff, Nat.reduceMul, Nat.reducePow, Nat.reduceLT, Int.reduceBEq, Int.reduceBNe, Int.reduceAdd, Int.reduceSub, Int.reduceMul, Int.reduceGT, Int.reduceGE, decS, Int.reduceNe, Int.reduceEq]
    refine ACall.to (has_ok B hB ⟨l, e⟩ hs 0) ?_
    rintro y G ⟨rfl, rfl⟩
    have h3 : hasR ⟨l, e⟩ 0 = (false, ⟨l, e⟩) := by simp [hasR, he]
    rw [h3]
    simp -implicitDefEqProofs (maxSteps := 500000) (disch := first | decide | omega) only [↓preS, ↓reduceIte, allS, Nat.reduceBEq, Nat.reduceAdd, Nat.reduceEqDiff, reduceIte, Int.reduceToNat, Int.reduceLE, Int.reduceLT, Nat.reduceLeDiff, Nat.reduceMul, Nat.reducePow, Nat.reduceLT, Int.reduceBEq, Int.reduceBNe, Int.reduceAdd, Int.reduceSub, Int.reduceMul, Int.reduceGT, Int.reduceGE, decS, Int.reduceNe, Int.reduceEq]
    simp only [textR, he, if_false]
    exact ⟨by trivial, by trivial⟩
end Go.Proofs.Ytgpipheibnlkhaa
