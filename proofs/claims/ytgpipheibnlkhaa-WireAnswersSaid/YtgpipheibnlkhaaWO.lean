/- What functions of the program compute. No condition. -/
import Derived.Test.YtgpipheibnlkhaaWM
set_option linter.unusedSimpArgs false
set_option linter.unusedVariables false
namespace Go.Proofs.Ytgpipheibnlkhaa
open Go Go.Ab

structure Cont where
  (id app node mem cores prio label : Int)
  (master : Bool)
  (notice : Int)
  deriving DecidableEq, Inhabited
structure Out where
  (err : Int)
  (conts : List Cont)
  (ids gone : List Int)
  (n : Int)

def CONT (c : Cont) : AV := .agg [.int .i64 c.id, .int .i64 c.app, .int .i64 c.node, .int .i64 c.mem, .int .i64 c.cores, .int .i64 c.prio, .int .i64 c.label, .bool c.master, .int .i64 c.notice]
def outC (o : Out) : List AV := [.int .i64 o.err, .sl false 9 (o.conts.map CONT), .sl false 1 (o.ids.map I64), .sl false 1 (o.gone.map I64), .int .i64 o.n]
def OUT (o : Out) : AV := .agg (outC o)

theorem outC_0 (o : Out) : partOf (outC o) 0 1 false = .int .i64 o.err := rfl
theorem outC_1 (o : Out) : partOf (outC o) 1 1 false = .sl false 9 (o.conts.map CONT) := rfl
theorem outC_2 (o : Out) : partOf (outC o) 2 1 false = .sl false 1 (o.ids.map I64) := rfl
theorem outC_3 (o : Out) : partOf (outC o) 3 1 false = .sl false 1 (o.gone.map I64) := rfl
theorem outC_4 (o : Out) : partOf (outC o) 4 1 false = .int .i64 o.n := rfl
theorem outC_all (o : Out) : partOf (outC o) 0 5 true = OUT o := rfl
theorem outC_len (o : Out) : (outC o).length = 5 := rfl
theorem outC_one (o : Out) : (outC o).all AV.one = true := rfl
theorem outC_ro (o : Out) (ρ : Nat → Option Nat) : AV.roL ρ (outC o) = outC o := rfl
theorem outC_bo (o : Out) (ρ : Nat → Option Nat) (n : Nat) : AV.boL ρ n (outC o) = true := rfl
attribute [simp] outC_ro outC_bo
theorem outC_drop (o : Out) : (outC o).drop 5 = [] := rfl
theorem OUT_cells (o : Out) : (OUT o).cells = outC o := rfl
theorem nxt_out {P : Program} {d : Bool} {t : Nat} {l : List COper} {r : Regs} {L : St → Prop} {Lp : AV → St → Prop} {o : Out} {H : List AO} : nxt P d t l r L Lp (OUT o) H = opsK P d l ⟨(t, OUT o) :: r, H⟩ L Lp := rfl
set_option linter.defProp false in
def outS := And.intro @outC_all (And.intro @outC_len (And.intro @outC_one (And.intro @outC_drop (And.intro @OUT_cells (And.intro @nxt_out (And.intro @outC_0 (And.intro @outC_1 (And.intro @outC_2 (And.intro @outC_3 @outC_4)))))))))

def manyO (o : Out) : Bool := decide (300 < o.conts.length) || decide (300 < o.ids.length) || decide (300 < o.gone.length)
def wrongO (o : Out) : Int := if o.err < 0 ∨ 19 < o.err then 1 else if manyO o then 4 else 0
def contI (c : Cont) : List Int := [c.id, c.app, c.node, c.mem, c.cores, c.prio, c.label, if c.master then 1 else 0, c.notice]
def encO (o : Out) : List UInt8 := ints [o.err, o.conts.length] ++ o.conts.flatMap (fun c => ints (contI c)) ++ intsL o.ids ++ intsL o.gone ++ ints [o.n]
def outR (o : Out) : AV := if wrongO o = 0 then .tup [SB (encO o), .int .i64 0] else .tup [SB [], .int .i64 (wrongO o)]

theorem many_ok (o : Out) : PCall Try.prog 35 [OUT o] (.bool (manyO o)) := by
  unfold PCall
  refine acall_of is35 (by simp) ?_
  unfold cc35
  by_cases h1 : 300 < o.conts.length
  · simp -implicitDefEqProofs (maxSteps := 500000) (disch := first | decide | omega) only [↓preS, ↓reduceIte, allS, Nat.reduceBEq, Nat.reduceAdd, Nat.reduceEqDiff, reduceIte, Int.reduceToNat, Int.reduceLE, Int.reduceLT, Nat.reduceLeDiff, Nat.reduceMul, Nat.reducePow, Nat.reduceLT, Int.reduceBEq, Int.reduceBNe, Int.reduceAdd, Int.reduceSub, Int.reduceMul, Int.reduceGT, Int.reduceGE, decS, Int.reduceNe, Int.reduceEq, outS]
    simp [manyO, h1]
  by_cases h2 : 300 < o.ids.length
  · simp -implicitDefEqProofs (maxSteps := 500000) (disch := first | decide | omega) only [↓preS, ↓reduceIte, allS, Nat.reduceBEq, Nat.reduceAdd, Nat.reduceEqDiff, reduceIte, Int.reduceToNat, Int.reduceLE, Int.reduceLT, Nat.reduceLeDiff, Nat.reduceMul, Nat.reducePow, Nat.reduceLT, Int.reduceBEq, Int.reduceBNe, Int.reduceAdd, Int.reduceSub, Int.reduceMul, Int.reduceGT, Int.reduceGE, decS, Int.reduceNe, Int.reduceEq, outS]
    simp [manyO, h2]
  by_cases h3 : 300 < o.gone.length
  · simp -implicitDefEqProofs (maxSteps := 500000) (disch := first | decide | omega) only [↓preS, ↓reduceIte, allS, Nat.reduceBEq, Nat.reduceAdd, Nat.reduceEqDiff, reduceIte, Int.reduceToNat, Int.reduceLE, Int.reduceLT, Nat.reduceLeDiff, Nat.reduceMul, Nat.reducePow, Nat.reduceLT, Int.reduceBEq, Int.reduceBNe, Int.reduceAdd, Int.reduceSub, Int.reduceMul, Int.reduceGT, Int.reduceGE, decS, Int.reduceNe, Int.reduceEq, outS]
    simp [manyO, h3]
  · simp -implicitDefEqProofs (maxSteps := 500000) (disch := first | decide | omega) only [↓preS, ↓reduceIte, allS, Nat.reduceBEq, Nat.reduceAdd, Nat.reduceEqDiff, reduceIte, Int.reduceToNat, Int.reduceLE, Int.reduceLT, Nat.reduceLeDiff, Nat.reduceMul, Nat.reducePow, Nat.reduceLT, Int.reduceBEq, Int.reduceBNe, Int.reduceAdd, Int.reduceSub, Int.reduceMul, Int.reduceGT, Int.reduceGE, decS, Int.reduceNe, Int.reduceEq, outS]
    simp [manyO, h1, h2, h3]

theorem conts_len (l : List Cont) : (l.flatMap fun c => ints (contI c)).length = 72 * l.length := by
  induction l with
  | nil => rfl
  | cons a l ih => rw [List.flatMap_cons, List.length_append, ints_len, ih, List.length_cons]; simp [contI]; omega

theorem wrongO_zero {o : Out} (h : wrongO o = 0) : 0 ≤ o.err ∧ o.err ≤ 19 ∧ o.conts.length ≤ 300 ∧ o.ids.length ≤ 300 ∧ o.gone.length ≤ 300 ∧ manyO o = false := by
  unfold wrongO at h
  split at h
  · omega
  split at h
  · omega
  rename_i h1 h2
  have h3 := h2
  simp only [manyO, Bool.or_eq_true, decide_eq_true_eq, not_or] at h2
  exact ⟨by omega, by omega, by omega, by omega, by omega, by simpa using h3⟩

theorem loop17 (o : Out) (b : List UInt8) (hb : b.length ≤ 2 ^ 20) (hl : o.conts.length ≤ 300) (Q : AE → St → Prop)
    (h : Q .normal ⟨[(1, .ref 0 0 0), (4, .ref 1 0 0)], [.box (outC o), WB (b ++ o.conts.flatMap fun c => ints (contI c))]⟩) (G : List AO) :
    aw Try.prog cc17L0 Q ⟨[(1, .ref 0 0 0), (4, .ref 1 0 0), (31, .sl false 9 (o.conts.map CONT)), (32, .int .i64 o.conts.length), (33, .int .i64 0)], .box (outC o) :: WB b :: G⟩ := by
  unfold cc17L0
  simp -implicitDefEqProofs (maxSteps := 500000) (disch := first | decide | omega) only [↓preS, ↓reduceIte, allS, Nat.reduceBEq, Nat.reduceAdd, Nat.reduceEqDiff, reduceIte, Int.reduceToNat, Int.reduceLE, Int.reduceLT, Nat.reduceLeDiff, Nat.reduceMul, Nat.reducePow, Nat.reduceLT, Int.reduceBEq, Int.reduceBNe, Int.reduceAdd, Int.reduceSub, Int.reduceMul, Int.reduceGT, Int.reduceGE, decS, Int.reduceNe, Int.reduceEq]
  refine aw_loopS (σ := Nat) (fun i => ⟨[(1, .ref 0 0 0), (4, .ref 1 0 0), (31, .sl false 9 (o.conts.map CONT)), (32, .int .i64 o.conts.length), (33, .int .i64 (i : Int))], [.box (outC o), WB (b ++ (o.conts.take i).flatMap fun c => ints (contI c))]⟩)
    (fun i => i ≤ o.conts.length) (fun i => o.conts.length - i) 0 ?_ (by simp) ?_
  · simp only [List.take_zero, List.flatMap_nil, List.append_nil, WB]
    (refine Sub.ofL [some 0, some 1] rfl (by simp) (by decide) (by simp [partL, AO.ro, AV.ro, AV.roL, names, AO.empty, SB, U8, SI, I64, STR]) (by simp [AO.bo, AV.bo, AV.boL, names]) ?_ <;> (try simp only [List.map_cons, List.map_nil, regsL, AV.ro, AV.roL, AV.bo, AV.boL, names, get_here, get_there, Nat.reduceBEq, List.getD_cons_zero, List.getD_cons_succ, List.getD_nil, and_true, true_and, Nat.reduceLT, List.length_cons, List.length_nil, Nat.reduceAdd, decide_true, Option.isSome_some, Bool.true_or, Bool.and_self, Option.isSome_none, Bool.false_or, beq_self_eq_true, wk0_self, wk0_nils]) <;> (try and_intros) <;> (first | done | rfl | exact .inl rfl | exact .inr ⟨rfl, _, _, rfl⟩ | (simp; done) | (simp; omega) | (refine .inl ?_; simp; done) | (refine .inl ?_; simp; omega)))
  intro k hk
  unfold cc17l0
  simp -implicitDefEqProofs (maxSteps := 500000) (disch := first | decide | omega) only [↓preS, ↓reduceIte, allS, Nat.reduceBEq, Nat.reduceAdd, Nat.reduceEqDiff, reduceIte, Int.reduceToNat, Int.reduceLE, Int.reduceLT, Nat.reduceLeDiff, Nat.reduceMul, Nat.reducePow, Nat.reduceLT, Int.reduceBEq, Int.reduceBNe, Int.reduceAdd, Int.reduceSub, Int.reduceMul, Int.reduceGT, Int.reduceGE, decS, Int.reduceNe, Int.reduceEq]
  refine cK_split (fun hb2 => ?_) (fun hb2 => ?_)
  · simp (disch := omega) only [decide_eq_true_eq, decide_eq_false_iff_not, wrap_i64, beq_iff_eq, bne_iff_ne, beq_eq_false_iff_ne, bne_eq_false_iff_eq, Bool.not_eq_true, Bool.not_eq_false, eq_u32, ne_u32] at hb2
    have hfk := conts_len (o.conts.take k)
    have hk2 : (o.conts.take k).length ≤ 300 := by rw [List.length_take]; omega
    have wo := wints_ok false (b ++ (o.conts.take k).flatMap fun c => ints (contI c)) (contI (o.conts.getD k default)) (by rw [List.length_append, hfk]; simp [contI]; omega)
    simp -implicitDefEqProofs (maxSteps := 500000) (disch := first | decide | omega) only [↓preS, ↓reduceIte, allS, Nat.reduceBEq, Nat.reduceAdd, Nat.reduceEqDiff, reduceIte, Int.reduceToNat, Int.reduceLE, Int.reduceLT, Nat.reduceLeDiff, Nat.reduceMul, Nat.reducePow, Nat.reduceLT, Int.reduceBEq, Int.reduceBNe, Int.reduceAdd, Int.reduceSub, Int.reduceMul, Int.reduceGT, Int.reduceGE, decS, Int.reduceNe, Int.reduceEq, CONT]
    refine ⟨by omega, by omega, ?_⟩
    refine cK_split (fun hc => ?_) (fun hc => ?_)
    · simp only [contI, hc, if_true] at wo
      simp -implicitDefEqProofs (maxSteps := 500000) (disch := first | decide | omega) only [↓preS, ↓reduceIte, allS, Nat.reduceBEq, Nat.reduceAdd, Nat.reduceEqDiff, reduceIte, Int.reduceToNat, Int.reduceLE, Int.reduceLT, Nat.reduceLeDiff, Nat.reduceMul, Nat.reducePow, Nat.reduceLT, Int.reduceBEq, Int.reduceBNe, Int.reduceAdd, Int.reduceSub, Int.reduceMul, Int.reduceGT, Int.reduceGE, decS, Int.reduceNe, Int.reduceEq, CONT]
      refine acK_rd wo rfl (fun _ => rfl) (fun _ => rfl) rfl (fun _ => rfl) (fun _ => rfl) rfl ?_
      simp -implicitDefEqProofs (maxSteps := 500000) (disch := first | decide | omega) only [↓preS, ↓reduceIte, allS, Nat.reduceBEq, Nat.reduceAdd, Nat.reduceEqDiff, reduceIte, Int.reduceToNat, Int.reduceLE, Int.reduceLT, Nat.reduceLeDiff, Nat.reduceMul, Nat.reducePow, Nat.reduceLT, Int.reduceBEq, Int.reduceBNe, Int.reduceAdd, Int.reduceSub, Int.reduceMul, Int.reduceGT, Int.reduceGE, decS, Int.reduceNe, Int.reduceEq]
      refine ⟨k + 1, ?_, by omega, by omega⟩
      rw [fmt o.conts (fun c => ints (contI c)) k (by omega), ← List.append_assoc]
      simp only [WB, contI, hc, if_true]
      (refine Sub.ofL [some 0, some 1] rfl (by simp) (by decide) (by simp [partL, AO.ro, AV.ro, AV.roL, names, AO.empty, SB, U8, SI, I64, STR]) (by simp [AO.bo, AV.bo, AV.boL, names]) ?_ <;> (try simp only [List.map_cons, List.map_nil, regsL, AV.ro, AV.roL, AV.bo, AV.boL, names, get_here, get_there, Nat.reduceBEq, List.getD_cons_zero, List.getD_cons_succ, List.getD_nil, and_true, true_and, Nat.reduceLT, List.length_cons, List.length_nil, Nat.reduceAdd, decide_true, Option.isSome_some, Bool.true_or, Bool.and_self, Option.isSome_none, Bool.false_or, beq_self_eq_true, wk0_self, wk0_nils]) <;> (try and_intros) <;> (first | done | rfl | exact .inl rfl | exact .inr ⟨rfl, _, _, rfl⟩ | (simp; done) | (simp; omega) | (refine .inl ?_; simp; done) | (refine .inl ?_; simp; omega)))
    · simp only [contI, hc, Bool.false_eq_true, if_false] at wo
      simp -implicitDefEqProofs (maxSteps := 500000) (disch := first | decide | omega) only [↓preS, ↓reduceIte, allS, Nat.reduceBEq, Nat.reduceAdd, Nat.reduceEqDiff, reduceIte, Int.reduceToNat, Int.reduceLE, Int.reduceLT, Nat.reduceLeDiff, Nat.reduceMul, Nat.reducePow, Nat.reduceLT, Int.reduceBEq, Int.reduceBNe, Int.reduceAdd, Int.reduceSub, Int.reduceMul, Int.reduceGT, Int.reduceGE, decS, Int.reduceNe, Int.reduceEq, CONT]
      refine acK_rd wo rfl (fun _ => rfl) (fun _ => rfl) rfl (fun _ => rfl) (fun _ => rfl) rfl ?_
      simp -implicitDefEqProofs (maxSteps := 500000) (disch := first | decide | omega) only [↓preS, ↓reduceIte, allS, Nat.reduceBEq, Nat.reduceAdd, Nat.reduceEqDiff, reduceIte, Int.reduceToNat, Int.reduceLE, Int.reduceLT, Nat.reduceLeDiff, Nat.reduceMul, Nat.reducePow, Nat.reduceLT, Int.reduceBEq, Int.reduceBNe, Int.reduceAdd, Int.reduceSub, Int.reduceMul, Int.reduceGT, Int.reduceGE, decS, Int.reduceNe, Int.reduceEq]
      refine ⟨k + 1, ?_, by omega, by omega⟩
      rw [fmt o.conts (fun c => ints (contI c)) k (by omega), ← List.append_assoc]
      simp only [WB, contI, hc, Bool.false_eq_true, if_false]
      (refine Sub.ofL [some 0, some 1] rfl (by simp) (by decide) (by simp [partL, AO.ro, AV.ro, AV.roL, names, AO.empty, SB, U8, SI, I64, STR]) (by simp [AO.bo, AV.bo, AV.boL, names]) ?_ <;> (try simp only [List.map_cons, List.map_nil, regsL, AV.ro, AV.roL, AV.bo, AV.boL, names, get_here, get_there, Nat.reduceBEq, List.getD_cons_zero, List.getD_cons_succ, List.getD_nil, and_true, true_and, Nat.reduceLT, List.length_cons, List.length_nil, Nat.reduceAdd, decide_true, Option.isSome_some, Bool.true_or, Bool.and_self, Option.isSome_none, Bool.false_or, beq_self_eq_true, wk0_self, wk0_nils]) <;> (try and_intros) <;> (first | done | rfl | exact .inl rfl | exact .inr ⟨rfl, _, _, rfl⟩ | (simp; done) | (simp; omega) | (refine .inl ?_; simp; done) | (refine .inl ?_; simp; omega)))
  · simp (disch := omega) only [decide_eq_true_eq, decide_eq_false_iff_not, wrap_i64, beq_iff_eq, bne_iff_ne, beq_eq_false_iff_ne, bne_eq_false_iff_eq, Bool.not_eq_true, Bool.not_eq_false, eq_u32, ne_u32] at hb2
    simp -implicitDefEqProofs (maxSteps := 500000) (disch := first | decide | omega) only [↓preS, ↓reduceIte, allS, Nat.reduceBEq, Nat.reduceAdd, Nat.reduceEqDiff, reduceIte, Int.reduceToNat, Int.reduceLE, Int.reduceLT, Nat.reduceLeDiff, Nat.reduceMul, Nat.reducePow, Nat.reduceLT, Int.reduceBEq, Int.reduceBNe, Int.reduceAdd, Int.reduceSub, Int.reduceMul, Int.reduceGT, Int.reduceGE, decS, Int.reduceNe, Int.reduceEq]
    have : k = o.conts.length := by omega
    subst this
    rw [List.take_length]
    exact h

theorem intsLn (s : List Int) : (intsL s).length ≤ 2 + 8 * s.length := by
  unfold intsL
  rw [List.length_append, be_len, flat8_len, List.length_take]
  omega

set_option maxRecDepth 20000 in
set_option maxHeartbeats 4000000 in
theorem output_ok (o : Out) : PCall Try.prog 17 [OUT o] (outR o) := by
  refine PCall.wk3 (acall_of is17 (by simp) ?_)
  unfold cc17
  by_cases h1 : o.err < 0 ∨ 19 < o.err
  · have hw : wrongO o = 1 := by unfold wrongO; rw [if_pos h1]
    have e : outR o = .tup [SB [], .int .i64 1] := by unfold outR; rw [if_neg (by omega), hw]
    rw [e]
    have fin : Wk3 (.tup [.nils, .int .i64 1]) (.tup [SB [], .int .i64 1]) := .inr ⟨_, _, rfl, rfl, .inl (.inr ⟨rfl, _, _, rfl⟩), .inl (.inl rfl), trivial⟩
    by_cases h2 : o.err < 0
    · simp -implicitDefEqProofs (maxSteps := 500000) (disch := first | decide | omega) only [↓preS, ↓reduceIte, allS, Nat.reduceBEq, Nat.reduceAdd, Nat.reduceEqDiff, reduceIte, Int.reduceToNat, Int.reduceLE, Int.reduceLT, Nat.reduceLeDiff, Nat.reduceMul, Nat.reducePow, Nat.reduceLT, Int.reduceBEq, Int.reduceBNe, Int.reduceAdd, Int.reduceSub, Int.reduceMul, Int.reduceGT, Int.reduceGE, decS, Int.reduceNe, Int.reduceEq, outS]
      exact fin
    · simp -implicitDefEqProofs (maxSteps := 500000) (disch := first | decide | omega) only [↓preS, ↓reduceIte, allS, Nat.reduceBEq, Nat.reduceAdd, Nat.reduceEqDiff, reduceIte, Int.reduceToNat, Int.reduceLE, Int.reduceLT, Nat.reduceLeDiff, Nat.reduceMul, Nat.reducePow, Nat.reduceLT, Int.reduceBEq, Int.reduceBNe, Int.reduceAdd, Int.reduceSub, Int.reduceMul, Int.reduceGT, Int.reduceGE, decS, Int.reduceNe, Int.reduceEq, outS]
      exact fin
  · cases hm : manyO o
    · have hw : wrongO o = 0 := by unfold wrongO; rw [if_neg h1, hm]; rfl
      have e : outR o = .tup [SB (encO o), .int .i64 0] := if_pos hw
      obtain ⟨z1, z2, z3, z4, z5, z6⟩ := wrongO_zero hw
      rw [e]
      simp -implicitDefEqProofs (maxSteps := 500000) (disch := first | decide | omega) only [↓preS, ↓reduceIte, allS, Nat.reduceBEq, Nat.reduceAdd, Nat.reduceEqDiff, reduceIte, Int.reduceToNat, Int.reduceLE, Int.reduceLT, Nat.reduceLeDiff, Nat.reduceMul, Nat.reducePow, Nat.reduceLT, Int.reduceBEq, Int.reduceBNe, Int.reduceAdd, Int.reduceSub, Int.reduceMul, Int.reduceGT, Int.reduceGE, decS, Int.reduceNe, Int.reduceEq, outS]
      have c := many_ok o
      rw [hm] at c
      refine acK_of (FCall.of (lent := false) (c) (.refl rfl) rfl (by simp)) ?_
      simp -implicitDefEqProofs (maxSteps := 500000) (disch := first | decide | omega) only [↓preS, ↓reduceIte, allS, Nat.reduceBEq, Nat.reduceAdd, Nat.reduceEqDiff, reduceIte, Int.reduceToNat, Int.reduceLE, Int.reduceLT, Nat.reduceLeDiff, Nat.reduceMul, Nat.reducePow, Nat.reduceLT, Int.reduceBEq, Int.reduceBNe, Int.reduceAdd, Int.reduceSub, Int.reduceMul, Int.reduceGT, Int.reduceGE, decS, Int.reduceNe, Int.reduceEq, outS, fillOk, fillAV, one_nils]
      have l1 := intsLn o.ids
      have l2 := intsLn o.gone
      have l3 := conts_len o.conts
      refine acK_rd (ACall.nilb (wints_ok false [] [o.err, o.conts.length] (by simp))) rfl (fun _ => rfl) (fun _ => rfl) rfl (fun _ => rfl) (fun _ => rfl) rfl ?_
      simp -implicitDefEqProofs (maxSteps := 500000) (disch := first | decide | omega) only [↓preS, ↓reduceIte, allS, Nat.reduceBEq, Nat.reduceAdd, Nat.reduceEqDiff, reduceIte, Int.reduceToNat, Int.reduceLE, Int.reduceLT, Nat.reduceLeDiff, Nat.reduceMul, Nat.reducePow, Nat.reduceLT, Int.reduceBEq, Int.reduceBNe, Int.reduceAdd, Int.reduceSub, Int.reduceMul, Int.reduceGT, Int.reduceGE, decS, Int.reduceNe, Int.reduceEq, outS, WB]
      refine loop17 o (ints [o.err, o.conts.length]) (by rw [ints_len]; simp) z3 _ ?_ _
      simp -implicitDefEqProofs (maxSteps := 500000) (disch := first | decide | omega) only [↓preS, ↓reduceIte, allS, Nat.reduceBEq, Nat.reduceAdd, Nat.reduceEqDiff, reduceIte, Int.reduceToNat, Int.reduceLE, Int.reduceLT, Nat.reduceLeDiff, Nat.reduceMul, Nat.reducePow, Nat.reduceLT, Int.reduceBEq, Int.reduceBNe, Int.reduceAdd, Int.reduceSub, Int.reduceMul, Int.reduceGT, Int.reduceGE, decS, Int.reduceNe, Int.reduceEq, outS]
      refine acK_rd (wlist_ok false (ints [o.err, o.conts.length] ++ o.conts.flatMap fun c => ints (contI c)) o.ids (by rw [List.length_append, ints_len, l3]; simp; omega) (by omega)) rfl (fun _ => rfl) (fun _ => rfl) rfl (fun _ => rfl) (fun _ => rfl) rfl ?_
      simp -implicitDefEqProofs (maxSteps := 500000) (disch := first | decide | omega) only [↓preS, ↓reduceIte, allS, Nat.reduceBEq, Nat.reduceAdd, Nat.reduceEqDiff, reduceIte, Int.reduceToNat, Int.reduceLE, Int.reduceLT, Nat.reduceLeDiff, Nat.reduceMul, Nat.reducePow, Nat.reduceLT, Int.reduceBEq, Int.reduceBNe, Int.reduceAdd, Int.reduceSub, Int.reduceMul, Int.reduceGT, Int.reduceGE, decS, Int.reduceNe, Int.reduceEq, outS, WB]
      refine acK_rd (wlist_ok false (ints [o.err, o.conts.length] ++ (o.conts.flatMap fun c => ints (contI c)) ++ intsL o.ids) o.gone (by rw [List.length_append, List.length_append, ints_len, l3]; simp; omega) (by omega)) rfl (fun _ => rfl) (fun _ => rfl) rfl (fun _ => rfl) (fun _ => rfl) rfl ?_
      simp -implicitDefEqProofs (maxSteps := 500000) (disch := first | decide | omega) only [↓preS, ↓reduceIte, allS, Nat.reduceBEq, Nat.reduceAdd, Nat.reduceEqDiff, reduceIte, Int.reduceToNat, Int.reduceLE, Int.reduceLT, Nat.reduceLeDiff, Nat.reduceMul, Nat.reducePow, Nat.reduceLT, Int.reduceBEq, Int.reduceBNe, Int.reduceAdd, Int.reduceSub, Int.reduceMul, Int.reduceGT, Int.reduceGE, decS, Int.reduceNe, Int.reduceEq, outS, WB]
      refine acK_rd (wints_ok false (ints [o.err, o.conts.length] ++ (o.conts.flatMap fun c => ints (contI c)) ++ intsL o.ids ++ intsL o.gone) [o.n] (by rw [List.length_append, List.length_append, List.length_append, ints_len, l3]; simp; omega)) rfl (fun _ => rfl) (fun _ => rfl) rfl (fun _ => rfl) (fun _ => rfl) rfl ?_
      simp -implicitDefEqProofs (maxSteps := 500000) (disch := first | decide | omega) only [↓preS, ↓reduceIte, allS, Nat.reduceBEq, Nat.reduceAdd, Nat.reduceEqDiff, reduceIte, Int.reduceToNat, Int.reduceLE, Int.reduceLT, Nat.reduceLeDiff, Nat.reduceMul, Nat.reducePow, Nat.reduceLT, Int.reduceBEq, Int.reduceBNe, Int.reduceAdd, Int.reduceSub, Int.reduceMul, Int.reduceGT, Int.reduceGE, decS, Int.reduceNe, Int.reduceEq, outS, WB]
      exact .inl (.inl (.inl rfl))
    · have hw : wrongO o = 4 := by unfold wrongO; rw [if_neg h1, hm]; rfl
      have e : outR o = .tup [SB [], .int .i64 4] := by unfold outR; rw [if_neg (by omega), hw]
      rw [e]
      simp -implicitDefEqProofs (maxSteps := 500000) (disch := first | decide | omega) only [↓preS, ↓reduceIte, allS, Nat.reduceBEq, Nat.reduceAdd, Nat.reduceEqDiff, reduceIte, Int.reduceToNat, Int.reduceLE, Int.reduceLT, Nat.reduceLeDiff, Nat.reduceMul, Nat.reducePow, Nat.reduceLT, Int.reduceBEq, Int.reduceBNe, Int.reduceAdd, Int.reduceSub, Int.reduceMul, Int.reduceGT, Int.reduceGE, decS, Int.reduceNe, Int.reduceEq, outS]
      have c := many_ok o
      rw [hm] at c
      refine acK_of (FCall.of (lent := false) (c) (.refl rfl) rfl (by simp)) ?_
      simp -implicitDefEqProofs (maxSteps := 500000) (disch := first | decide | omega) only [↓preS, ↓reduceIte, allS, Nat.reduceBEq, Nat.reduceAdd, Nat.reduceEqDiff, reduceIte, Int.reduceToNat, Int.reduceLE, Int.reduceLT, Nat.reduceLeDiff, Nat.reduceMul, Nat.reducePow, Nat.reduceLT, Int.reduceBEq, Int.reduceBNe, Int.reduceAdd, Int.reduceSub, Int.reduceMul, Int.reduceGT, Int.reduceGE, decS, Int.reduceNe, Int.reduceEq, outS]
      exact .inr ⟨_, _, rfl, rfl, .inl (.inr ⟨rfl, _, _, rfl⟩), .inl (.inl rfl), trivial⟩
end Go.Proofs.Ytgpipheibnlkhaa
