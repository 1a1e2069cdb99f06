/- What functions of the program compute. No condition. -/
import Derived.Test.YtgpipheibnlkhaaWCd2
import Derived.Test.YtgpipheibnlkhaaL4
set_option linter.unusedSimpArgs false
set_option linter.unusedVariables false
namespace Go.Proofs.Ytgpipheibnlkhaa
open Go Go.Ab

def CUT : AV := .ifc 118 (.agg [])
/-- What a Reader holds. -/
def RB (l : List UInt8) (e : Int) : AO := .box [.sl false 1 (l.map U8), .int .i64 e]

theorem take_ok (l : List UInt8) (e : Int) (n : Nat) (hl : l.length < 2 ^ 62) : ACallP Try.prog 71 [.ref 0 0 0, .int .i64 (n : Int)] [RB l e]
    (fun y H' => n ≤ l.length ∧ y = SB (l.take n) ∧ H' = [RB (l.drop n) e]) (fun x H' => l.length < n ∧ x = CUT ∧ H' = [RB l e]) := by
  refine acallP_at is71 (by simp) rfl ?_
  unfold cc71 RB
  simp -implicitDefEqProofs (maxSteps := 500000) (disch := first | decide | omega) only [↓preS, ↓reduceIte, allS, Nat.reduceBEq, Nat.reduceAdd, Nat.reduceEqDiff, reduceIte, Int.reduceToNat, Int.reduceLE, Int.reduceLT, Nat.reduceLeDiff, Nat.reduceMul, Nat.reducePow, Nat.reduceLT, Int.reduceBEq, Int.reduceBNe, Int.reduceAdd, Int.reduceSub, Int.reduceMul, Int.reduceGT, Int.reduceGE, decS, Int.reduceNe, Int.reduceEq, partOf]
  refine cK_split (fun hb => ?_) (fun hb => ?_)
  · simp (disch := omega) only [decide_eq_true_eq, decide_eq_false_iff_not, wrap_i64, beq_iff_eq, bne_iff_ne, beq_eq_false_iff_ne, bne_eq_false_iff_eq, Bool.not_eq_true, Bool.not_eq_false, eq_u32, ne_u32] at hb
    simp -implicitDefEqProofs (maxSteps := 500000) (disch := first | decide | omega) only [↓preS, ↓reduceIte, allS, Nat.reduceBEq, Nat.reduceAdd, Nat.reduceEqDiff, reduceIte, Int.reduceToNat, Int.reduceLE, Int.reduceLT, Nat.reduceLeDiff, Nat.reduceMul, Nat.reducePow, Nat.reduceLT, Int.reduceBEq, Int.reduceBNe, Int.reduceAdd, Int.reduceSub, Int.reduceMul, Int.reduceGT, Int.reduceGE, decS, Int.reduceNe, Int.reduceEq, partOf]
    refine ⟨rfl, by omega, rfl⟩
  · simp (disch := omega) only [decide_eq_true_eq, decide_eq_false_iff_not, wrap_i64, beq_iff_eq, bne_iff_ne, beq_eq_false_iff_ne, bne_eq_false_iff_eq, Bool.not_eq_true, Bool.not_eq_false, eq_u32, ne_u32] at hb
    simp -implicitDefEqProofs (maxSteps := 500000) (disch := first | decide | omega) only [↓preS, ↓reduceIte, allS, Nat.reduceBEq, Nat.reduceAdd, Nat.reduceEqDiff, reduceIte, Int.reduceToNat, Int.reduceLE, Int.reduceLT, Nat.reduceLeDiff, Nat.reduceMul, Nat.reducePow, Nat.reduceLT, Int.reduceBEq, Int.reduceBNe, Int.reduceAdd, Int.reduceSub, Int.reduceMul, Int.reduceGT, Int.reduceGE, decS, Int.reduceNe, Int.reduceEq, partOf]
    exact ⟨by omega, by omega, by omega, by omega, by omega, by omega, rfl⟩

def numB (l : List UInt8) : BitVec 64 := l.foldl (fun c b => (c <<< 8) ||| BitVec.ofInt 64 (b.toNat : Int)) 0
def num (l : List UInt8) : Int := IntKind.i64.wrap ((numB l).toNat : Int)

theorem loop35 (l : List UInt8) (hl : l.length < 2 ^ 62) (H : List AO) (Q : AE → St → Prop) (h : Q .normal ⟨[(5, .int .u64 ((numB l).toNat : Int))], H⟩) :
    aw Try.prog cc69L0 Q ⟨[(5, .int .u64 0), (10, .sl false 1 (l.map U8)), (11, .int .i64 l.length), (12, .int .i64 0)], H⟩ := by
  unfold cc69L0
  simp -implicitDefEqProofs (maxSteps := 500000) (disch := first | decide | omega) only [↓preS, ↓reduceIte, allS, Nat.reduceBEq, Nat.reduceAdd, Nat.reduceEqDiff, reduceIte, Int.reduceToNat, Int.reduceLE, Int.reduceLT, Nat.reduceLeDiff, Nat.reduceMul, Nat.reducePow, Nat.reduceLT, Int.reduceBEq, Int.reduceBNe, Int.reduceAdd, Int.reduceSub, Int.reduceMul, Int.reduceGT, Int.reduceGE, decS, Int.reduceNe, Int.reduceEq]
  refine aw_loop (σ := Nat) (fun i => ⟨[(5, .int .u64 ((numB (l.take i)).toNat : Int)), (10, .sl false 1 (l.map U8)), (11, .int .i64 l.length), (12, .int .i64 (i : Int))], H⟩) (fun i => i ≤ l.length) (fun i => l.length - i) 0 rfl (by simp) ?_
  intro k hk
  unfold cc69l0
  simp -implicitDefEqProofs (maxSteps := 500000) (disch := first | decide | omega) only [↓preS, ↓reduceIte, allS, Nat.reduceBEq, Nat.reduceAdd, Nat.reduceEqDiff, reduceIte, Int.reduceToNat, Int.reduceLE, Int.reduceLT, Nat.reduceLeDiff, Nat.reduceMul, Nat.reducePow, Nat.reduceLT, Int.reduceBEq, Int.reduceBNe, Int.reduceAdd, Int.reduceSub, Int.reduceMul, Int.reduceGT, Int.reduceGE, decS, Int.reduceNe, Int.reduceEq]
  refine cK_split (fun hb => ?_) (fun hb => ?_)
  · simp (disch := omega) only [decide_eq_true_eq, decide_eq_false_iff_not, wrap_i64, beq_iff_eq, bne_iff_ne, beq_eq_false_iff_ne, bne_eq_false_iff_eq, Bool.not_eq_true, Bool.not_eq_false, eq_u32, ne_u32] at hb
    have hk' : k < l.length := by omega
    have e : numB (l.take (k + 1)) = (numB (l.take k) <<< 8) ||| BitVec.ofInt 64 ((l.getD k default).toNat : Int) := by
      unfold numB
      rw [List.take_succ_eq_append_getElem hk', List.foldl_append, List.getD_eq_getElem?_getD, List.getElem?_eq_getElem hk']
      rfl
    simp -implicitDefEqProofs (maxSteps := 500000) (disch := first | decide | omega) only [↓preS, ↓reduceIte, allS, Nat.reduceBEq, Nat.reduceAdd, Nat.reduceEqDiff, reduceIte, Int.reduceToNat, Int.reduceLE, Int.reduceLT, Nat.reduceLeDiff, Nat.reduceMul, Nat.reducePow, Nat.reduceLT, Int.reduceBEq, Int.reduceBNe, Int.reduceAdd, Int.reduceSub, Int.reduceMul, Int.reduceGT, Int.reduceGE, decS, Int.reduceNe, Int.reduceEq]
    refine ⟨by omega, by omega, k + 1, ?_, by omega, by omega⟩
    rw [e]
    rfl
  · simp (disch := omega) only [decide_eq_true_eq, decide_eq_false_iff_not, wrap_i64, beq_iff_eq, bne_iff_ne, beq_eq_false_iff_ne, bne_eq_false_iff_eq, Bool.not_eq_true, Bool.not_eq_false, eq_u32, ne_u32] at hb
    simp -implicitDefEqProofs (maxSteps := 500000) (disch := first | decide | omega) only [↓preS, ↓reduceIte, allS, Nat.reduceBEq, Nat.reduceAdd, Nat.reduceEqDiff, reduceIte, Int.reduceToNat, Int.reduceLE, Int.reduceLT, Nat.reduceLeDiff, Nat.reduceMul, Nat.reducePow, Nat.reduceLT, Int.reduceBEq, Int.reduceBNe, Int.reduceAdd, Int.reduceSub, Int.reduceMul, Int.reduceGT, Int.reduceGE, decS, Int.reduceNe, Int.reduceEq]
    have : k = l.length := by omega
    subst this
    rw [List.take_length]
    exact h

theorem number_ok (l : List UInt8) (e : Int) (n : Nat) (hl : l.length < 2 ^ 62) : ACallP Try.prog 69 [.ref 0 0 0, .int .i64 (n : Int)] [RB l e]
    (fun y H' => n ≤ l.length ∧ y = .int .i64 (num (l.take n)) ∧ H' = [RB (l.drop n) e]) (fun x H' => l.length < n ∧ x = CUT ∧ H' = [RB l e]) := by
  refine acallP_at is69 (by simp) rfl ?_
  unfold cc69 
  simp -implicitDefEqProofs (maxSteps := 500000) (disch := first | decide | omega) only [↓preS, ↓reduceIte, allS, Nat.reduceBEq, Nat.reduceAdd, Nat.reduceEqDiff, reduceIte, Int.reduceToNat, Int.reduceLE, Int.reduceLT, Nat.reduceLeDiff, Nat.reduceMul, Nat.reducePow, Nat.reduceLT, Int.reduceBEq, Int.reduceBNe, Int.reduceAdd, Int.reduceSub, Int.reduceMul, Int.reduceGT, Int.reduceGE, decS, Int.reduceNe, Int.reduceEq, partOf]
  refine acK_obj (take_ok l e n hl) rfl rfl rfl rfl rfl ?_ ?_
  · rintro y Hr ⟨h1, rfl, rfl⟩
    have hll : (l.take n).length < 2 ^ 62 := by simp; omega
    simp -implicitDefEqProofs (maxSteps := 500000) (disch := first | decide | omega) only [↓preS, ↓reduceIte, allS, Nat.reduceBEq, Nat.reduceAdd, Nat.reduceEqDiff, reduceIte, Int.reduceToNat, Int.reduceLE, Int.reduceLT, Nat.reduceLeDiff, Nat.reduceMul, Nat.reducePow, Nat.reduceLT, Int.reduceBEq, Int.reduceBNe, Int.reduceAdd, Int.reduceSub, Int.reduceMul, Int.reduceGT, Int.reduceGE, decS, Int.reduceNe, Int.reduceEq, SB, AV.ren, spl_one, RB, AO.ren, AV.renL]
    have e1 : min n l.length = (l.take n).length := by simp
    rw [e1]
    refine loop35 (l.take n) hll _ _ ?_
    simp -implicitDefEqProofs (maxSteps := 500000) (disch := first | decide | omega) only [↓preS, ↓reduceIte, allS, Nat.reduceBEq, Nat.reduceAdd, Nat.reduceEqDiff, reduceIte, Int.reduceToNat, Int.reduceLE, Int.reduceLT, Nat.reduceLeDiff, Nat.reduceMul, Nat.reducePow, Nat.reduceLT, Int.reduceBEq, Int.reduceBNe, Int.reduceAdd, Int.reduceSub, Int.reduceMul, Int.reduceGT, Int.reduceGE, decS, Int.reduceNe, Int.reduceEq]
    exact ⟨h1, rfl⟩
  · rintro y Hr ⟨h1, rfl, rfl⟩
    simp -implicitDefEqProofs (maxSteps := 500000) (disch := first | decide | omega) only [↓preS, ↓reduceIte, allS, Nat.reduceBEq, Nat.reduceAdd, Nat.reduceEqDiff, reduceIte, Int.reduceToNat, Int.reduceLE, Int.reduceLT, Nat.reduceLeDiff, Nat.reduceMul, Nat.reducePow, Nat.reduceLT, Int.reduceBEq, Int.reduceBNe, Int.reduceAdd, Int.reduceSub, Int.reduceMul, Int.reduceGT, Int.reduceGE, decS, Int.reduceNe, Int.reduceEq, AV.ren, spl_one, RB, AO.ren, AV.renL]
    exact ⟨h1, rfl⟩

theorem fail_ok (l : List UInt8) (e v : Int) : ACall Try.prog 46 [.ref 0 0 0, .int .i64 v] [RB l e] fun y H' => y = .tup [] ∧ H' = [RB l (if e = 0 then v else e)] := by
  refine acall_at is46 (by simp) rfl ?_
  unfold cc46 RB
  simp -implicitDefEqProofs (maxSteps := 500000) (disch := first | decide | omega) only [↓preS, ↓reduceIte, allS, Nat.reduceBEq, Nat.reduceAdd, Nat.reduceEqDiff, reduceIte, Int.reduceToNat, Int.reduceLE, Int.reduceLT, Nat.reduceLeDiff, Nat.reduceMul, Nat.reducePow, Nat.reduceLT, Int.reduceBEq, Int.reduceBNe, Int.reduceAdd, Int.reduceSub, Int.reduceMul, Int.reduceGT, Int.reduceGE, decS, Int.reduceNe, Int.reduceEq, partOf]
  refine cK_split (fun hb => ?_) (fun hb => ?_)
  · simp (disch := omega) only [decide_eq_true_eq, decide_eq_false_iff_not, wrap_i64, beq_iff_eq, bne_iff_ne, beq_eq_false_iff_ne, bne_eq_false_iff_eq, Bool.not_eq_true, Bool.not_eq_false, eq_u32, ne_u32] at hb
    simp -implicitDefEqProofs (maxSteps := 500000) (disch := first | decide | omega) only [↓preS, ↓reduceIte, allS, Nat.reduceBEq, Nat.reduceAdd, Nat.reduceEqDiff, reduceIte, Int.reduceToNat, Int.reduceLE, Int.reduceLT, Nat.reduceLeDiff, Nat.reduceMul, Nat.reducePow, Nat.reduceLT, Int.reduceBEq, Int.reduceBNe, Int.reduceAdd, Int.reduceSub, Int.reduceMul, Int.reduceGT, Int.reduceGE, decS, Int.reduceNe, Int.reduceEq, partOf]
    rw [if_pos hb]
  · simp (disch := omega) only [decide_eq_true_eq, decide_eq_false_iff_not, wrap_i64, beq_iff_eq, bne_iff_ne, beq_eq_false_iff_ne, bne_eq_false_iff_eq, Bool.not_eq_true, Bool.not_eq_false, eq_u32, ne_u32] at hb
    simp -implicitDefEqProofs (maxSteps := 500000) (disch := first | decide | omega) only [↓preS, ↓reduceIte, allS, Nat.reduceBEq, Nat.reduceAdd, Nat.reduceEqDiff, reduceIte, Int.reduceToNat, Int.reduceLE, Int.reduceLT, Nat.reduceLeDiff, Nat.reduceMul, Nat.reducePow, Nat.reduceLT, Int.reduceBEq, Int.reduceBNe, Int.reduceAdd, Int.reduceSub, Int.reduceMul, Int.reduceGT, Int.reduceGE, decS, Int.reduceNe, Int.reduceEq, partOf]
    rw [if_neg hb]

theorem end_ok (l : List UInt8) (e : Int) : ACall Try.prog 50 [.ref 0 0 0] [RB l e] fun y H' => y = .int .i64 (if e = 0 ∧ 0 < l.length then 9 else e) ∧ H' = [RB l e] := by
  refine acall_at is50 (by simp) rfl ?_
  unfold cc50 RB
  by_cases h1 : e = 0
  · by_cases h2 : (l.length : Int) > 0
    · simp -implicitDefEqProofs (maxSteps := 500000) (disch := first | decide | omega) only [↓preS, ↓reduceIte, allS, Nat.reduceBEq, Nat.reduceAdd, Nat.reduceEqDiff, reduceIte, Int.reduceToNat, Int.reduceLE, Int.reduceLT, Nat.reduceLeDiff, Nat.reduceMul, Nat.reducePow, Nat.reduceLT, Int.reduceBEq, Int.reduceBNe, Int.reduceAdd, Int.reduceSub, Int.reduceMul, Int.reduceGT, Int.reduceGE, decS, Int.reduceNe, Int.reduceEq, partOf, h1]
      rw [if_pos (by omega)]
    · simp -implicitDefEqProofs (maxSteps := 500000) (disch := first | decide | omega) only [↓preS, ↓reduceIte, allS, Nat.reduceBEq, Nat.reduceAdd, Nat.reduceEqDiff, reduceIte, Int.reduceToNat, Int.reduceLE, Int.reduceLT, Nat.reduceLeDiff, Nat.reduceMul, Nat.reducePow, Nat.reduceLT, Int.reduceBEq, Int.reduceBNe, Int.reduceAdd, Int.reduceSub, Int.reduceMul, Int.reduceGT, Int.reduceGE, decS, Int.reduceNe, Int.reduceEq, partOf, h1]
      rw [if_neg (by omega)]
  · simp -implicitDefEqProofs (maxSteps := 500000) (disch := first | decide | omega) only [↓preS, ↓reduceIte, allS, Nat.reduceBEq, Nat.reduceAdd, Nat.reduceEqDiff, reduceIte, Int.reduceToNat, Int.reduceLE, Int.reduceLT, Nat.reduceLeDiff, Nat.reduceMul, Nat.reducePow, Nat.reduceLT, Int.reduceBEq, Int.reduceBNe, Int.reduceAdd, Int.reduceSub, Int.reduceMul, Int.reduceGT, Int.reduceGE, decS, Int.reduceNe, Int.reduceEq, partOf]
    rw [if_neg (fun h => h1 h.1)]

theorem new_ok (t : Bool) (l : List UInt8) (hl : l.length ≤ 2 ^ 40) : ACall Try.prog 44 [.sl t 1 (l.map U8)] [] fun y H' => y = .ref 0 0 0 ∧ H' = [RB l 0] := by
  refine acall_of is44 (by simp) ?_
  unfold cc44 RB
  simp -implicitDefEqProofs (maxSteps := 500000) (disch := first | decide | omega) only [↓preS, ↓reduceIte, allS, Nat.reduceBEq, Nat.reduceAdd, Nat.reduceEqDiff, reduceIte, Int.reduceToNat, Int.reduceLE, Int.reduceLT, Nat.reduceLeDiff, Nat.reduceMul, Nat.reducePow, Nat.reduceLT, Int.reduceBEq, Int.reduceBNe, Int.reduceAdd, Int.reduceSub, Int.reduceMul, Int.reduceGT, Int.reduceGE, decS, Int.reduceNe, Int.reduceEq]
  refine acK_of (FCall.of (lent := false) (clone_ok t l hl) (.refl rfl) rfl (by simp)) ?_
  simp -implicitDefEqProofs (maxSteps := 500000) (disch := first | decide | omega) only [↓preS, ↓reduceIte, allS, Nat.reduceBEq, Nat.reduceAdd, Nat.reduceEqDiff, reduceIte, Int.reduceToNat, Int.reduceLE, Int.reduceLT, Nat.reduceLeDiff, Nat.reduceMul, Nat.reducePow, Nat.reduceLT, Int.reduceBEq, Int.reduceBNe, Int.reduceAdd, Int.reduceSub, Int.reduceMul, Int.reduceGT, Int.reduceGE, decS, Int.reduceNe, Int.reduceEq, partOf]
  exact ⟨rfl, rfl, rfl⟩

theorem caught_ok (l : List UInt8) (e : Int) (x : Option AV) (hx : x = none ∨ x = some CUT) : ACall Try.prog 68 [.ref 0 0 0, recV x] [RB l e] fun y H' => y = .tup [] ∧ ∃ G, H' = RB l (if x = none then e else if e = 0 then 8 else e) :: G := by
  refine acall_at is68 (by simp) rfl ?_
  unfold cc68
  rcases hx with rfl | rfl
  · simp -implicitDefEqProofs (maxSteps := 500000) (disch := first | decide | omega) only [↓preS, ↓reduceIte, allS, Nat.reduceBEq, Nat.reduceAdd, Nat.reduceEqDiff, reduceIte, Int.reduceToNat, Int.reduceLE, Int.reduceLT, Nat.reduceLeDiff, Nat.reduceMul, Nat.reducePow, Nat.reduceLT, Int.reduceBEq, Int.reduceBNe, Int.reduceAdd, Int.reduceSub, Int.reduceMul, Int.reduceGT, Int.reduceGE, decS, Int.reduceNe, Int.reduceEq, recV]
    exact ⟨[], rfl⟩
  · simp -implicitDefEqProofs (maxSteps := 500000) (disch := first | decide | omega) only [↓preS, ↓reduceIte, allS, Nat.reduceBEq, Nat.reduceAdd, Nat.reduceEqDiff, reduceIte, Int.reduceToNat, Int.reduceLE, Int.reduceLT, Nat.reduceLeDiff, Nat.reduceMul, Nat.reducePow, Nat.reduceLT, Int.reduceBEq, Int.reduceBNe, Int.reduceAdd, Int.reduceSub, Int.reduceMul, Int.reduceGT, Int.reduceGE, decS, Int.reduceNe, Int.reduceEq, recV, CUT]
    refine acK_obj ((fail_ok l e 8).to fun _ _ h => h) rfl rfl rfl rfl rfl ?_ (PP := fun _ _ => False) fun _ _ h => h.elim
    rintro y Hr ⟨rfl, rfl⟩
    simp -implicitDefEqProofs (maxSteps := 500000) (disch := first | decide | omega) only [↓preS, ↓reduceIte, allS, Nat.reduceBEq, Nat.reduceAdd, Nat.reduceEqDiff, reduceIte, Int.reduceToNat, Int.reduceLE, Int.reduceLT, Nat.reduceLeDiff, Nat.reduceMul, Nat.reducePow, Nat.reduceLT, Int.reduceBEq, Int.reduceBNe, Int.reduceAdd, Int.reduceSub, Int.reduceMul, Int.reduceGT, Int.reduceGE, decS, Int.reduceNe, Int.reduceEq, AV.ren, AV.renL, spl_one, RB, AO.ren]
    exact ⟨_, rfl⟩
theorem caught_at (l : List UInt8) (e : Int) (x : Option AV) (hx : x = none ∨ x = some CUT) {H : List AO} {i : Nat} (hi : H[i]? = some (RB l e)) :
    ACall Try.prog 68 [.ref i 0 0, recV x] H fun y H' => y = .tup [] ∧ ∃ G, H' = H.set i (RB l (if x = none then e else if e = 0 then 8 else e)) ++ G := by
  have key := acK_obj (K := fun y H' => y = .tup [] ∧ ∃ G, H' = H.set i (RB l (if x = none then e else if e = 0 then 8 else e)) ++ G) (Kp := fun _ _ => False) (PP := fun _ _ => False) ((caught_ok l e x hx).to fun _ _ h => h) hi rfl rfl (by rcases hx with rfl | rfl <;> rfl) (by rcases hx with rfl | rfl <;> rfl) (by
    rintro y Hr ⟨rfl, G, rfl⟩
    rw [spl_one]
    exact ⟨rfl, _, rfl⟩) fun _ _ h => h.elim
  exact ACallP.never key fun _ _ h => h

theorem clos33 (l : List UInt8) (e : Int) (x : Option AV) (hx : x = none ∨ x = some CUT) {H : List AO} (h0 : H[0]? = some (RB l e)) (h1 : H[1]? = some (.box [.ref 0 0 0])) :
    DCall Try.prog 67 [.ref 1 0 0] x H fun H' => ∃ G, H' = H.set 0 (RB l (if x = none then e else if e = 0 then 8 else e)) ++ G := by
  have := dcall_one (k0 := 0) is69.mix Try.func67 (fn := Try.f67) rfl rfl (by kernel_rfl) rfl rfl rfl rfl (by kernel_rfl) rfl rfl rfl rfl rfl rfl rfl (by kernel_rfl) rfl h1 (caught_at l e x hx h0)
  exact ⟨this.1, fun E vs u a b c d => (this.2 E vs u a b c d).mono fun e u' w' ⟨v, H', E', k1, k2, k3, k4, k5, z, _, k6⟩ => ⟨v, H', E', k1, k2, k3, k4, k5, k6⟩⟩
end Go.Proofs.Ytgpipheibnlkhaa
