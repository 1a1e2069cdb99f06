/- What functions of the program compute. No condition. -/
import Derived.Test.YtgpipheibnlkhaaWA
set_option linter.unusedSimpArgs false
set_option linter.unusedVariables false
namespace Go.Proofs.Ytgpipheibnlkhaa
open Go Go.Ab

def errO (s : RS) : Int × RS := ((intR s).1, if (intR s).1 < 0 ∨ 19 < (intR s).1 then failR (intR s).2 1 else (intR s).2)
def numO (s : RS) : Int × RS := if (intR s).1 < 0 ∨ 300 < (intR s).1 then (0, failR (intR s).2 4) else ((intR s).1, (intR s).2)
def parsO (s : RS) : Out × RS :=
  let a := errO s
  let n := numO a.2
  let c := contsN n.1.toNat n.2
  let i := intsR c.2
  let g := intsR i.2
  let m := intR g.2
  (⟨a.1, c.1, i.1, g.1, m.1⟩, m.2)
def zeroO : Out := ⟨0, [], [], [], 0⟩
def doneO (r : Out × RS) : Out × Int := if endE r.2 ≠ 0 then (zeroO, endE r.2) else if manyO r.1 then (zeroO, 4) else (r.1, 0)
def parseO (b : List UInt8) : Out × Int := doneO (parsO ⟨b, 0⟩)
def parRO (q : Out × Int) : AV := .tup [OUT q.1, .int .i64 q.2]

theorem errO_le (s : RS) : (errO s).2.b.length ≤ s.b.length := by
  unfold errO failR
  have := intR_le s
  split <;> exact this
theorem numO_le (s : RS) : (numO s).2.b.length ≤ s.b.length := by
  unfold numO failR
  have := intR_le s
  split <;> exact this
theorem numO_rng (s : RS) : ∃ n : Nat, (numO s).1 = (n : Int) ∧ n ≤ 300 := by
  unfold numO
  split
  · exact ⟨0, rfl, by omega⟩
  · rename_i h
    exact ⟨(intR s).1.toNat, by simp only; omega, by omega⟩

theorem CONT_cells (c : Cont) : (CONT c).cells = [.int .i64 c.id, .int .i64 c.app, .int .i64 c.node, .int .i64 c.mem, .int .i64 c.cores, .int .i64 c.prio, .int .i64 c.label, .bool c.master, .int .i64 c.notice] := rfl
theorem ren_cont (c : Cont) (ρ : Nat → Nat) : (CONT c).ren ρ = CONT c := rfl
theorem app_cont (l : List Cont) (c : Cont) : l.map CONT ++ [CONT c] = (l ++ [c]).map CONT := by rw [List.map_append]; rfl

def Own4 (e n : Int) (k : Nat) (i g : AV) : List AV := [.int .i64 e, .own 3 9 0 k, i, g, .int .i64 n]

set_option maxRecDepth 20000 in
set_option maxHeartbeats 2000000 in
theorem loop27 (z : List AV) (hz : z = [.int .i64 0, .nils, .nils, .nils, .int .i64 0]) (e : Int) (n : Nat) (hn : n ≤ 300) (s : RS) (hs : s.b.length < 2 ^ 62) (Q : AE → St → Prop)
    (h : Q .normal ⟨[(2, .ref 0 0 0), (4, .ref 1 0 0), (6, .ref 2 0 0)], [.box z, (contsN n s).2.obj, .box (Own4 e 0 n .nils .nils), .arr 9 ((contsN n s).1.map CONT)]⟩) :
    aw Try.prog cc27L0 Q ⟨[(2, .ref 0 0 0), (4, .ref 1 0 0), (6, .ref 2 0 0), (33, .int .i64 (n : Int)), (34, .int .i64 0)], [.box z, s.obj, .box [.int .i64 e, .nils, .nils, .nils, .int .i64 0]]⟩ := by
  subst hz
  unfold cc27L0
  simp -implicitDefEqProofs (maxSteps := 500000) (disch := first | decide | omega) only [↓preS, ↓reduceIte, allS, Nat.reduceBEq, Nat.reduceAdd, Nat.reduceEqDiff, reduceIte, Int.reduceToNat, Int.reduceLE, Int.reduceLT, Nat.reduceLeDiff, Nat.reduceMul, Nat.reducePow, Nat.reduceLT, Int.reduceBEq, Int.reduceBNe, Int.reduceAdd, Int.reduceSub, Int.reduceMul, Int.reduceGT, Int.reduceGE, decS, Int.reduceNe, Int.reduceEq]
  refine aw_loopS (σ := Nat) (fun i => ⟨[(2, .ref 0 0 0), (4, .ref 1 0 0), (6, .ref 2 0 0), (33, .int .i64 (n : Int)), (34, .int .i64 (i : Int))], [.box [.int .i64 0, .nils, .nils, .nils, .int .i64 0], (contsN i s).2.obj, .box (Own4 e 0 i .nils .nils), .arr 9 ((contsN i s).1.map CONT)]⟩)
    (fun i => i ≤ n) (fun i => n - i) 0 ?_ (by simp) ?_
  · simp only [contsN, List.map_nil, RS.obj, RB, Own4]
    (refine Sub.ofL [some 0, some 1, some 2, none] rfl (by simp) (by decide) (by simp [partL, AO.ro, AV.ro, AV.roL, names, AO.empty, SB, U8, SI, I64, STR]) (by simp [AO.bo, AV.bo, AV.boL, names]) ?_ <;> (try simp only [List.map_cons, List.map_nil, regsL, AV.ro, AV.roL, AV.bo, AV.boL, names, get_here, get_there, Nat.reduceBEq, List.getD_cons_zero, List.getD_cons_succ, List.getD_nil, and_true, true_and, Nat.reduceLT, List.length_cons, List.length_nil, Nat.reduceAdd, decide_true, Option.isSome_some, Bool.true_or, Bool.and_self, Option.isSome_none, Bool.false_or, beq_self_eq_true, wk0_self, wk0_nils]) <;> (try and_intros) <;> (first | done | rfl | exact .inl rfl | exact .inr ⟨rfl, _, _, rfl⟩ | (simp; done) | (simp; omega) | (refine .inl ?_; simp; done) | (refine .inl ?_; simp; omega)))
  intro k hk
  unfold cc27l0
  simp -implicitDefEqProofs (maxSteps := 500000) (disch := first | decide | omega) only [↓preS, ↓reduceIte, allS, Nat.reduceBEq, Nat.reduceAdd, Nat.reduceEqDiff, reduceIte, Int.reduceToNat, Int.reduceLE, Int.reduceLT, Nat.reduceLeDiff, Nat.reduceMul, Nat.reducePow, Nat.reduceLT, Int.reduceBEq, Int.reduceBNe, Int.reduceAdd, Int.reduceSub, Int.reduceMul, Int.reduceGT, Int.reduceGE, decS, Int.reduceNe, Int.reduceEq]
  have hl := contsN_len k s
  have hle := contsN_le k s
  refine cK_split (fun hb => ?_) (fun hb => ?_)
  · simp (disch := omega) only [decide_eq_true_eq, decide_eq_false_iff_not, wrap_i64, beq_iff_eq, bne_iff_ne, beq_eq_false_iff_ne, bne_eq_false_iff_eq, Bool.not_eq_true, Bool.not_eq_false, eq_u32, ne_u32] at hb
    have hsn := contsN_snoc k s
    generalize contsN k s = q at hl hle hsn ⊢
    obtain ⟨l, s0⟩ := q
    simp only at hl hle hsn
    subst hl
    have fin : ∃ j : Nat, Ab.Sub 0 (keepK (some [2, 4, 6, 33, 34]) ⟨[(2, .ref 0 0 0), (4, .ref 1 0 0), (6, .ref 2 0 0), (33, .int .i64 (n : Int)), (34, .int .i64 ((l.length : Int) + 1))], [.box [.int .i64 0, .nils, .nils, .nils, .int .i64 0], (cont1 s0).2.obj, .box [.int .i64 e, .own 5 9 0 (l.length + 1), .nils, .nils, .int .i64 0], .dead, .arr 9 [CONT (cont1 s0).1], .arr 9 ((l ++ [(cont1 s0).1]).map CONT)]⟩)
        ⟨[(2, .ref 0 0 0), (4, .ref 1 0 0), (6, .ref 2 0 0), (33, .int .i64 (n : Int)), (34, .int .i64 (j : Int))], [.box [.int .i64 0, .nils, .nils, .nils, .int .i64 0], (contsN j s).2.obj, .box (Own4 e 0 j .nils .nils), .arr 9 ((contsN j s).1.map CONT)]⟩ ∧ j ≤ n ∧ n - j < n - l.length := by
      refine ⟨l.length + 1, ?_, by omega, by omega⟩
      rw [hsn]
      simp only
      generalize (cont1 s0).2 = u
      generalize (l ++ [(cont1 s0).1]).map CONT = w
      generalize (cont1 s0).1 = cc
      simp only [RS.obj, RB, Own4]
      (refine Sub.ofL [some 0, some 1, some 2, some 5] rfl (by simp) (by decide) (by simp [partL, AO.ro, AV.ro, AV.roL, names, AO.empty, SB, U8, SI, I64, STR]) (by simp [AO.bo, AV.bo, AV.boL, names]) ?_ <;> (try simp only [List.map_cons, List.map_nil, regsL, AV.ro, AV.roL, AV.bo, AV.boL, names, get_here, get_there, Nat.reduceBEq, List.getD_cons_zero, List.getD_cons_succ, List.getD_nil, and_true, true_and, Nat.reduceLT, List.length_cons, List.length_nil, Nat.reduceAdd, decide_true, Option.isSome_some, Bool.true_or, Bool.and_self, Option.isSome_none, Bool.false_or, beq_self_eq_true, wk0_self, wk0_nils]) <;> (try and_intros) <;> (first | done | rfl | exact .inl rfl | exact .inr ⟨rfl, _, _, rfl⟩ | (simp; done) | (simp; omega) | (refine .inl ?_; simp; done) | (refine .inl ?_; simp; omega)))
    simp -implicitDefEqProofs (maxSteps := 500000) (disch := first | decide | omega) only [↓preS, ↓reduceIte, allS, Nat.reduceBEq, Nat.reduceAdd, Nat.reduceEqDiff, reduceIte, Int.reduceToNat, Int.reduceLE, Int.reduceLT, Nat.reduceLeDiff, Nat.reduceMul, Nat.reducePow, Nat.reduceLT, Int.reduceBEq, Int.reduceBNe, Int.reduceAdd, Int.reduceSub, Int.reduceMul, Int.reduceGT, Int.reduceGE, decS, Int.reduceNe, Int.reduceEq, Own4]
    simp only [Own4] at fin
    refine ⟨?_, ?_⟩ <;>
    · refine acK_rd (cont_read s0 (by omega)) rfl (fun _ => rfl) (fun _ => rfl) rfl (fun _ => rfl) (fun _ => rfl) rfl ?_
      simp -implicitDefEqProofs (maxSteps := 500000) (disch := first | decide | omega) only [↓preS, ↓reduceIte, allS, Nat.reduceBEq, Nat.reduceAdd, Nat.reduceEqDiff, reduceIte, Int.reduceToNat, Int.reduceLE, Int.reduceLT, Nat.reduceLeDiff, Nat.reduceMul, Nat.reducePow, Nat.reduceLT, Int.reduceBEq, Int.reduceBNe, Int.reduceAdd, Int.reduceSub, Int.reduceMul, Int.reduceGT, Int.reduceGE, decS, Int.reduceNe, Int.reduceEq, Own4, nxt_cont, CONT_cells, app_cont]
      repeat' first | exact fin | omega | apply And.intro
  · simp (disch := omega) only [decide_eq_true_eq, decide_eq_false_iff_not, wrap_i64, beq_iff_eq, bne_iff_ne, beq_eq_false_iff_ne, bne_eq_false_iff_eq, Bool.not_eq_true, Bool.not_eq_false, eq_u32, ne_u32] at hb
    simp -implicitDefEqProofs (maxSteps := 500000) (disch := first | decide | omega) only [↓preS, ↓reduceIte, allS, Nat.reduceBEq, Nat.reduceAdd, Nat.reduceEqDiff, reduceIte, Int.reduceToNat, Int.reduceLE, Int.reduceLT, Nat.reduceLeDiff, Nat.reduceMul, Nat.reducePow, Nat.reduceLT, Int.reduceBEq, Int.reduceBNe, Int.reduceAdd, Int.reduceSub, Int.reduceMul, Int.reduceGT, Int.reduceGE, decS, Int.reduceNe, Int.reduceEq]
    have : k = n := by omega
    subst this
    exact h

theorem manyT_ok (t1 t2 t3 : Bool) (o : Out) : PCall Try.prog 35 [.agg [.int .i64 o.err, .sl t1 9 (o.conts.map CONT), .sl t2 1 (o.ids.map I64), .sl t3 1 (o.gone.map I64), .int .i64 o.n]] (.bool (manyO o)) := by
  unfold PCall
  refine acall_of is35 (by simp) ?_
  unfold cc35
  by_cases h1 : 300 < o.conts.length
  · simp -implicitDefEqProofs (maxSteps := 500000) (disch := first | decide | omega) only [↓preS, ↓reduceIte, allS, Nat.reduceBEq, Nat.reduceAdd, Nat.reduceEqDiff, reduceIte, Int.reduceToNat, Int.reduceLE, Int.reduceLT, Nat.reduceLeDiff, Nat.reduceMul, Nat.reducePow, Nat.reduceLT, Int.reduceBEq, Int.reduceBNe, Int.reduceAdd, Int.reduceSub, Int.reduceMul, Int.reduceGT, Int.reduceGE, decS, Int.reduceNe, Int.reduceEq]
    simp [manyO, h1]
  by_cases h2 : 300 < o.ids.length
  · simp -implicitDefEqProofs (maxSteps := 500000) (disch := first | decide | omega) only [↓preS, ↓reduceIte, allS, Nat.reduceBEq, Nat.reduceAdd, Nat.reduceEqDiff, reduceIte, Int.reduceToNat, Int.reduceLE, Int.reduceLT, Nat.reduceLeDiff, Nat.reduceMul, Nat.reducePow, Nat.reduceLT, Int.reduceBEq, Int.reduceBNe, Int.reduceAdd, Int.reduceSub, Int.reduceMul, Int.reduceGT, Int.reduceGE, decS, Int.reduceNe, Int.reduceEq]
    simp [manyO, h2]
  by_cases h3 : 300 < o.gone.length
  · simp -implicitDefEqProofs (maxSteps := 500000) (disch := first | decide | omega) only [↓preS, ↓reduceIte, allS, Nat.reduceBEq, Nat.reduceAdd, Nat.reduceEqDiff, reduceIte, Int.reduceToNat, Int.reduceLE, Int.reduceLT, Nat.reduceLeDiff, Nat.reduceMul, Nat.reducePow, Nat.reduceLT, Int.reduceBEq, Int.reduceBNe, Int.reduceAdd, Int.reduceSub, Int.reduceMul, Int.reduceGT, Int.reduceGE, decS, Int.reduceNe, Int.reduceEq]
    simp [manyO, h3]
  · simp -implicitDefEqProofs (maxSteps := 500000) (disch := first | decide | omega) only [↓preS, ↓reduceIte, allS, Nat.reduceBEq, Nat.reduceAdd, Nat.reduceEqDiff, reduceIte, Int.reduceToNat, Int.reduceLE, Int.reduceLT, Nat.reduceLeDiff, Nat.reduceMul, Nat.reducePow, Nat.reduceLT, Int.reduceBEq, Int.reduceBNe, Int.reduceAdd, Int.reduceSub, Int.reduceMul, Int.reduceGT, Int.reduceGE, decS, Int.reduceNe, Int.reduceEq]
    simp [manyO, h1, h2, h3]

def restO (e : Int) (s : RS) : Out × RS :=
  let n := numO s
  let c := contsN n.1.toNat n.2
  let i := intsR c.2
  let g := intsR i.2
  let m := intR g.2
  (⟨e, c.1, i.1, g.1, m.1⟩, m.2)
theorem parsO_rest (s : RS) : parsO s = restO (errO s).1 (errO s).2 := rfl

def PostO (r : Out × RS) (y : AV) (G : List AO) : Prop :=
    (∃ e, doneO r = (zeroO, e) ∧ y = .tup [.agg [.int .i64 0, .nils, .nils, .nils, .int .i64 0], .int .i64 e]) ∨
    (∃ a c d, doneO r = (r.1, 0) ∧ y = .tup [.agg [.int .i64 r.1.err, .own 3 9 0 r.1.conts.length, .own 4 1 0 r.1.ids.length, .own 5 1 0 r.1.gone.length, .int .i64 r.1.n], .int .i64 0] ∧
      G = [a, c, d, .arr 9 (r.1.conts.map CONT), .arr 1 (r.1.ids.map I64), .arr 1 (r.1.gone.map I64)])

set_option maxRecDepth 20000 in
set_option maxHeartbeats 8000000 in
theorem tail27 (e : Int) (s : RS) (hs : s.b.length < 2 ^ 62) : aw Try.prog cc27T22 (retR [.ce 2 44 5 true, .tm 3] (PostO (restO e s))) ⟨[(2, .ref 0 0 0), (4, .ref 1 0 0), (5, .int .i64 e)], [.box [.int .i64 0, .nils, .nils, .nils, .int .i64 0], s.obj]⟩ := by
  unfold cc27T22
  have l2 := numO_le s
  obtain ⟨n, hn, hn3⟩ := numO_rng s
  have hr : restO e s = (⟨e, (contsN (numO s).1.toNat (numO s).2).1, (intsR (contsN (numO s).1.toNat (numO s).2).2).1, (intsR (intsR (contsN (numO s).1.toNat (numO s).2).2).2).1, (intR (intsR (intsR (contsN (numO s).1.toNat (numO s).2).2).2).2).1⟩, (intR (intsR (intsR (contsN (numO s).1.toNat (numO s).2).2).2).2).2) := rfl
  rw [hr]
  simp -implicitDefEqProofs (maxSteps := 500000) (disch := first | decide | omega) only [↓preS, ↓reduceIte, allS, Nat.reduceBEq, Nat.reduceAdd, Nat.reduceEqDiff, reduceIte, Int.reduceToNat, Int.reduceLE, Int.reduceLT, Nat.reduceLeDiff, Nat.reduceMul, Nat.reducePow, Nat.reduceLT, Int.reduceBEq, Int.reduceBNe, Int.reduceAdd, Int.reduceSub, Int.reduceMul, Int.reduceGT, Int.reduceGE, decS, Int.reduceNe, Int.reduceEq, fillOk, fillAV]
  refine acK_rd (int_read s hs) rfl (fun _ => rfl) (fun _ => rfl) rfl (fun _ => rfl) (fun _ => rfl) rfl ?_
  have three : ((intR s).1 < 0 ∧ numO s = (0, failR (intR s).2 4)) ∨ (300 < (intR s).1 ∧ ¬ (intR s).1 < 0 ∧ numO s = (0, failR (intR s).2 4)) ∨ (¬ (intR s).1 < 0 ∧ ¬ 300 < (intR s).1 ∧ numO s = ((intR s).1, (intR s).2)) := by
    unfold numO
    by_cases h1 : (intR s).1 < 0
    · exact .inl ⟨h1, if_pos (.inl h1)⟩
    · by_cases h2 : 300 < (intR s).1
      · exact .inr (.inl ⟨h2, h1, if_pos (.inr h2)⟩)
      · exact .inr (.inr ⟨h1, h2, if_neg (by omega)⟩)
  have pre : ∃ s2 : RS, (numO s).2 = s2 ∧ s2.b.length < 2 ^ 62 := ⟨_, rfl, by omega⟩
  obtain ⟨s2, es2, hs2⟩ := pre
  rw [hn, es2, Int.toNat_natCast]
  have c1 := contsN_le n s2
  have c2 := contsN_len n s2
  have fl : RB (intR s).2.b (if (intR s).2.e = 0 then 4 else (intR s).2.e) = (failR (intR s).2 4).obj := rfl
  rcases three with ⟨h1, h2⟩ | ⟨h1, h1b, h2⟩ | ⟨h1, h1b, h2⟩
  rw [h2] at hn es2
  simp only at hn es2
  have hn0 : n = 0 := by omega
  subst hn0
  simp -implicitDefEqProofs (maxSteps := 500000) (disch := first | decide | omega) only [↓preS, ↓reduceIte, allS, Nat.reduceBEq, Nat.reduceAdd, Nat.reduceEqDiff, reduceIte, Int.reduceToNat, Int.reduceLE, Int.reduceLT, Nat.reduceLeDiff, Nat.reduceMul, Nat.reducePow, Nat.reduceLT, Int.reduceBEq, Int.reduceBNe, Int.reduceAdd, Int.reduceSub, Int.reduceMul, Int.reduceGT, Int.reduceGE, decS, Int.reduceNe, Int.reduceEq]
  refine acK_rd (fail_ok (intR s).2.b (intR s).2.e 4) rfl (fun _ => rfl) (fun _ => rfl) rfl (fun _ => rfl) (fun _ => rfl) rfl ?_
  rw [fl, es2]
  simp -implicitDefEqProofs (maxSteps := 500000) (disch := first | decide | omega) only [↓preS, ↓reduceIte, allS, Nat.reduceBEq, Nat.reduceAdd, Nat.reduceEqDiff, reduceIte, Int.reduceToNat, Int.reduceLE, Int.reduceLT, Nat.reduceLeDiff, Nat.reduceMul, Nat.reducePow, Nat.reduceLT, Int.reduceBEq, Int.reduceBNe, Int.reduceAdd, Int.reduceSub, Int.reduceMul, Int.reduceGT, Int.reduceGE, decS, Int.reduceNe, Int.reduceEq]
  unfold cc27T33
  simp -implicitDefEqProofs (maxSteps := 500000) (disch := first | decide | omega) only [↓preS, ↓reduceIte, allS, Nat.reduceBEq, Nat.reduceAdd, Nat.reduceEqDiff, reduceIte, Int.reduceToNat, Int.reduceLE, Int.reduceLT, Nat.reduceLeDiff, Nat.reduceMul, Nat.reducePow, Nat.reduceLT, Int.reduceBEq, Int.reduceBNe, Int.reduceAdd, Int.reduceSub, Int.reduceMul, Int.reduceGT, Int.reduceGE, decS, Int.reduceNe, Int.reduceEq]
  refine loop27 _ rfl e 0 (by omega) s2 hs2 _ ?_
  rotate_left
  rw [h2] at hn es2
  simp only at hn es2
  have hn0 : n = 0 := by omega
  subst hn0
  simp -implicitDefEqProofs (maxSteps := 500000) (disch := first | decide | omega) only [↓preS, ↓reduceIte, allS, Nat.reduceBEq, Nat.reduceAdd, Nat.reduceEqDiff, reduceIte, Int.reduceToNat, Int.reduceLE, Int.reduceLT, Nat.reduceLeDiff, Nat.reduceMul, Nat.reducePow, Nat.reduceLT, Int.reduceBEq, Int.reduceBNe, Int.reduceAdd, Int.reduceSub, Int.reduceMul, Int.reduceGT, Int.reduceGE, decS, Int.reduceNe, Int.reduceEq]
  refine acK_rd (fail_ok (intR s).2.b (intR s).2.e 4) rfl (fun _ => rfl) (fun _ => rfl) rfl (fun _ => rfl) (fun _ => rfl) rfl ?_
  rw [fl, es2]
  simp -implicitDefEqProofs (maxSteps := 500000) (disch := first | decide | omega) only [↓preS, ↓reduceIte, allS, Nat.reduceBEq, Nat.reduceAdd, Nat.reduceEqDiff, reduceIte, Int.reduceToNat, Int.reduceLE, Int.reduceLT, Nat.reduceLeDiff, Nat.reduceMul, Nat.reducePow, Nat.reduceLT, Int.reduceBEq, Int.reduceBNe, Int.reduceAdd, Int.reduceSub, Int.reduceMul, Int.reduceGT, Int.reduceGE, decS, Int.reduceNe, Int.reduceEq]
  unfold cc27T33
  simp -implicitDefEqProofs (maxSteps := 500000) (disch := first | decide | omega) only [↓preS, ↓reduceIte, allS, Nat.reduceBEq, Nat.reduceAdd, Nat.reduceEqDiff, reduceIte, Int.reduceToNat, Int.reduceLE, Int.reduceLT, Nat.reduceLeDiff, Nat.reduceMul, Nat.reducePow, Nat.reduceLT, Int.reduceBEq, Int.reduceBNe, Int.reduceAdd, Int.reduceSub, Int.reduceMul, Int.reduceGT, Int.reduceGE, decS, Int.reduceNe, Int.reduceEq]
  refine loop27 _ rfl e 0 (by omega) s2 hs2 _ ?_
  rotate_left
  rw [h2] at hn es2
  simp only at hn es2
  rw [hn, es2]
  simp -implicitDefEqProofs (maxSteps := 500000) (disch := first | decide | omega) only [↓preS, ↓reduceIte, allS, Nat.reduceBEq, Nat.reduceAdd, Nat.reduceEqDiff, reduceIte, Int.reduceToNat, Int.reduceLE, Int.reduceLT, Nat.reduceLeDiff, Nat.reduceMul, Nat.reducePow, Nat.reduceLT, Int.reduceBEq, Int.reduceBNe, Int.reduceAdd, Int.reduceSub, Int.reduceMul, Int.reduceGT, Int.reduceGE, decS, Int.reduceNe, Int.reduceEq]
  unfold cc27T33
  simp -implicitDefEqProofs (maxSteps := 500000) (disch := first | decide | omega) only [↓preS, ↓reduceIte, allS, Nat.reduceBEq, Nat.reduceAdd, Nat.reduceEqDiff, reduceIte, Int.reduceToNat, Int.reduceLE, Int.reduceLT, Nat.reduceLeDiff, Nat.reduceMul, Nat.reducePow, Nat.reduceLT, Int.reduceBEq, Int.reduceBNe, Int.reduceAdd, Int.reduceSub, Int.reduceMul, Int.reduceGT, Int.reduceGE, decS, Int.reduceNe, Int.reduceEq]
  refine loop27 _ rfl e n hn3 s2 hs2 _ ?_
  rotate_left
  all_goals
    generalize contsN _ s2 = q at c1 c2 ⊢
    obtain ⟨cs, u⟩ := q
    simp only at c1 c2
    have g1 := intsR_le u
    have g2 := intsR_le (intsR u).2
    simp -implicitDefEqProofs (maxSteps := 500000) (disch := first | decide | omega) only [↓preS, ↓reduceIte, allS, Nat.reduceBEq, Nat.reduceAdd, Nat.reduceEqDiff, reduceIte, Int.reduceToNat, Int.reduceLE, Int.reduceLT, Nat.reduceLeDiff, Nat.reduceMul, Nat.reducePow, Nat.reduceLT, Int.reduceBEq, Int.reduceBNe, Int.reduceAdd, Int.reduceSub, Int.reduceMul, Int.reduceGT, Int.reduceGE, decS, Int.reduceNe, Int.reduceEq]
    refine acK_obj ((ints_read u (by omega)).to (PP := fun _ _ => False) fun _ _ h => h) rfl rfl rfl rfl rfl ?_ fun _ _ h => h.elim
    rintro y G ⟨rfl, rfl⟩
    simp -implicitDefEqProofs (maxSteps := 500000) (disch := first | decide | omega) only [↓preS, ↓reduceIte, allS, Nat.reduceBEq, Nat.reduceAdd, Nat.reduceEqDiff, reduceIte, Int.reduceToNat, Int.reduceLE, Int.reduceLT, Nat.reduceLeDiff, Nat.reduceMul, Nat.reducePow, Nat.reduceLT, Int.reduceBEq, Int.reduceBNe, Int.reduceAdd, Int.reduceSub, Int.reduceMul, Int.reduceGT, Int.reduceGE, decS, Int.reduceNe, Int.reduceEq, AV.ren, AV.renL, spl_one, AO.ren, RS.obj, RB, fillOk, fillAV, ext, List.getElem?_nil, Option.getD_none, Nat.reduceSub, Own4]
    refine acK_obj ((ints_read (intsR u).2 (by omega)).to (PP := fun _ _ => False) fun _ _ h => h) rfl rfl rfl rfl rfl ?_ fun _ _ h => h.elim
    rintro y G ⟨rfl, rfl⟩
    simp -implicitDefEqProofs (maxSteps := 500000) (disch := first | decide | omega) only [↓preS, ↓reduceIte, allS, Nat.reduceBEq, Nat.reduceAdd, Nat.reduceEqDiff, reduceIte, Int.reduceToNat, Int.reduceLE, Int.reduceLT, Nat.reduceLeDiff, Nat.reduceMul, Nat.reducePow, Nat.reduceLT, Int.reduceBEq, Int.reduceBNe, Int.reduceAdd, Int.reduceSub, Int.reduceMul, Int.reduceGT, Int.reduceGE, decS, Int.reduceNe, Int.reduceEq, AV.ren, AV.renL, spl_one, AO.ren, RS.obj, RB, fillOk, fillAV, ext, List.getElem?_nil, Option.getD_none, Nat.reduceSub, Own4]
    refine acK_rd (int_read (intsR (intsR u).2).2 (by omega)) rfl (fun _ => rfl) (fun _ => rfl) rfl (fun _ => rfl) (fun _ => rfl) rfl ?_
    simp -implicitDefEqProofs (maxSteps := 500000) (disch := first | decide | omega) only [↓preS, ↓reduceIte, allS, Nat.reduceBEq, Nat.reduceAdd, Nat.reduceEqDiff, reduceIte, Int.reduceToNat, Int.reduceLE, Int.reduceLT, Nat.reduceLeDiff, Nat.reduceMul, Nat.reducePow, Nat.reduceLT, Int.reduceBEq, Int.reduceBNe, Int.reduceAdd, Int.reduceSub, Int.reduceMul, Int.reduceGT, Int.reduceGE, decS, Int.reduceNe, Int.reduceEq, AV.ren, AV.renL, spl_one, AO.ren, RS.obj, RB, fillOk, fillAV, ext, List.getElem?_nil, Option.getD_none, Nat.reduceSub, Own4]
    refine acK_rd (end_ok2 (intR (intsR (intsR u).2).2).2) rfl (fun _ => rfl) (fun _ => rfl) rfl (fun _ => rfl) (fun _ => rfl) rfl ?_
    by_cases he : endE (intR (intsR (intsR u).2).2).2 = 0
    · rw [he]
      simp -implicitDefEqProofs (maxSteps := 500000) (disch := first | decide | omega) only [↓preS, ↓reduceIte, allS, Nat.reduceBEq, Nat.reduceAdd, Nat.reduceEqDiff, reduceIte, Int.reduceToNat, Int.reduceLE, Int.reduceLT, Nat.reduceLeDiff, Nat.reduceMul, Nat.reducePow, Nat.reduceLT, Int.reduceBEq, Int.reduceBNe, Int.reduceAdd, Int.reduceSub, Int.reduceMul, Int.reduceGT, Int.reduceGE, decS, Int.reduceNe, Int.reduceEq]
      have mv := manyT_ok true true true ⟨e, cs, (intsR u).1, (intsR (intsR u).2).1, (intR (intsR (intsR u).2).2).1⟩
      refine acK_of (FCall.of (lent := true) mv (.cons ?_ .nil) rfl (fun _ => rfl)) ?_
      · have hb := Vw.bor (H := [.box [.int .i64 0, .nils, .nils, .nils, .int .i64 0], (intR (intsR (intsR u).2).2).2.obj, .box [.int .i64 e, .own 3 9 0 cs.length, .own 4 1 0 (intsR u).1.length, .own 5 1 0 (intsR (intsR u).2).1.length, .int .i64 (intR (intsR (intsR u).2).2).1], .arr 9 (cs.map CONT), .arr 1 ((intsR u).1.map I64), .arr 1 ((intsR (intsR u).2).1.map I64)]) (a := .agg [.int .i64 e, .own 3 9 0 cs.length, .own 4 1 0 (intsR u).1.length, .own 5 1 0 (intsR (intsR u).2).1.length, .int .i64 (intR (intsR (intsR u).2).2).1]) (by simp [bor, bor1, rdS, AV.low, AV.low2, AV.low1])
        simp only [bor, bor1, rdS, List.map_cons, List.map_nil, if_true, List.getElem?_cons_succ, List.getElem?_cons_zero, List.length_map, Nat.zero_add, Nat.le_refl, and_self, List.drop_zero] at hb
        rw [List.take_of_length_le (by simp), List.take_of_length_le (by simp), List.take_of_length_le (by simp)] at hb
        simpa only [c2, RS.obj, RB] using hb
      · cases hm : manyO ⟨e, cs, (intsR u).1, (intsR (intsR u).2).1, (intR (intsR (intsR u).2).2).1⟩
        · simp -implicitDefEqProofs (maxSteps := 500000) (disch := first | decide | omega) only [↓preS, ↓reduceIte, allS, Nat.reduceBEq, Nat.reduceAdd, Nat.reduceEqDiff, reduceIte, Int.reduceToNat, Int.reduceLE, Int.reduceLT, Nat.reduceLeDiff, Nat.reduceMul, Nat.reducePow, Nat.reduceLT, Int.reduceBEq, Int.reduceBNe, Int.reduceAdd, Int.reduceSub, Int.reduceMul, Int.reduceGT, Int.reduceGE, decS, Int.reduceNe, Int.reduceEq]
          right
          refine ⟨_, _, _, ?_, ?_, rfl⟩
          · simp only [doneO, he, hm]
            rfl
          · simp only [c2]
        · simp -implicitDefEqProofs (maxSteps := 500000) (disch := first | decide | omega) only [↓preS, ↓reduceIte, allS, Nat.reduceBEq, Nat.reduceAdd, Nat.reduceEqDiff, reduceIte, Int.reduceToNat, Int.reduceLE, Int.reduceLT, Nat.reduceLeDiff, Nat.reduceMul, Nat.reducePow, Nat.reduceLT, Int.reduceBEq, Int.reduceBNe, Int.reduceAdd, Int.reduceSub, Int.reduceMul, Int.reduceGT, Int.reduceGE, decS, Int.reduceNe, Int.reduceEq, fillOk, fillAV]
          left
          refine ⟨4, ?_, rfl⟩
          simp only [doneO, he, hm]
          rfl
    · simp -implicitDefEqProofs (maxSteps := 500000) (disch := first | decide | omega) only [↓preS, ↓reduceIte, allS, Nat.reduceBEq, Nat.reduceAdd, Nat.reduceEqDiff, reduceIte, Int.reduceToNat, Int.reduceLE, Int.reduceLT, Nat.reduceLeDiff, Nat.reduceMul, Nat.reducePow, Nat.reduceLT, Int.reduceBEq, Int.reduceBNe, Int.reduceAdd, Int.reduceSub, Int.reduceMul, Int.reduceGT, Int.reduceGE, decS, Int.reduceNe, Int.reduceEq, fillOk, fillAV]
      left
      refine ⟨_, ?_, rfl⟩
      unfold doneO
      rw [if_pos he]
end Go.Proofs.Ytgpipheibnlkhaa
