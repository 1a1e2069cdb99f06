/- What functions of the program compute. No condition. -/
import Derived.Test.YtgpipheibnlkhaaWH3
import Derived.Test.YtgpipheibnlkhaaWE
set_option linter.unusedSimpArgs false
set_option linter.unusedVariables false
namespace Go.Proofs.Ytgpipheibnlkhaa
open Go Go.Ab

theorem suf_mark {B : List UInt8} {s : RS} (h : Suf B s) (m : Int) : Suf B (markR m s) := by
  unfold markR
  split
  · exact h
  · exact h
theorem suf_cont {B : List UInt8} {s : RS} (h : Suf B s) : Suf B (cont1 s).2 := suf_int (suf_mark (suf_int (suf_int (suf_int (suf_int (suf_int (suf_int (suf_int (suf_int h)))))))) _)
theorem suf_conts {B : List UInt8} : ∀ (n : Nat) {s : RS}, Suf B s → Suf B (contsN n s).2
  | 0, s, h => h
  | n + 1, s, h => suf_conts n (suf_cont h)

set_option maxRecDepth 20000 in
set_option maxHeartbeats 2000000 in
theorem cont_x (B : List UInt8) (hB : B.length < 2 ^ 62) (s : RS) (hs : Suf B s) : ACall Try.prog 60 [.ref 0 0 0] [XS B s] fun y H' => y = CONT (cont1 s).1 ∧ H' = [XS B (cont1 s).2] := by
  have key : ACall Try.prog 60 [.ref 0 0 0] [XS B s] fun y H' => y = CONT (cont1 s).1 ∧ ∃ G, H' = XS B (cont1 s).2 :: G := by
    refine acallR_at isR60 (by simp) rfl ?_
    unfold cc60
    have h1 := suf_int hs
    have h2 := suf_int h1
    have h3 := suf_int h2
    have h5 := suf_int (suf_int h3)
    have h6 := suf_int h5
    have h7 := suf_int h6
    have h8 := suf_int h7
    simp -implicitDefEqProofs (maxSteps := 500000) (disch := first | decide | omega) only [↓preS, ↓reduceIte, allS, Nat.reduceBEq, Nat.reduceAdd, Nat.reduceEqDiff, reduceIte, Int.reduceToNat, Int.reduceLE, Int.reduceLT, Nat.reduceLeDiff, Nat.reduceMul, Nat.reducePow, Nat.reduceLT, Int.reduceBEq, Int.reduceBNe, Int.reduceAdd, Int.reduceSub, Int.reduceMul, Int.reduceGT, Int.reduceGE, decS, Int.reduceNe, Int.reduceEq]
    refine acK_rd (int_x B hB s hs) rfl (fun _ => rfl) (fun _ => rfl) rfl (fun _ => rfl) (fun _ => rfl) rfl ?_
    simp -implicitDefEqProofs (maxSteps := 500000) (disch := first | decide | omega) only [↓preS, ↓reduceIte, allS, Nat.reduceBEq, Nat.reduceAdd, Nat.reduceEqDiff, reduceIte, Int.reduceToNat, Int.reduceLE, Int.reduceLT, Nat.reduceLeDiff, Nat.reduceMul, Nat.reducePow, Nat.reduceLT, Int.reduceBEq, Int.reduceBNe, Int.reduceAdd, Int.reduceSub, Int.reduceMul, Int.reduceGT, Int.reduceGE, decS, Int.reduceNe, Int.reduceEq, fillOk, fillAV]
    refine acK_rd (int_x B hB _ h1) rfl (fun _ => rfl) (fun _ => rfl) rfl (fun _ => rfl) (fun _ => rfl) rfl ?_
    simp -implicitDefEqProofs (maxSteps := 500000) (disch := first | decide | omega) only [↓preS, ↓reduceIte, allS, Nat.reduceBEq, Nat.reduceAdd, Nat.reduceEqDiff, reduceIte, Int.reduceToNat, Int.reduceLE, Int.reduceLT, Nat.reduceLeDiff, Nat.reduceMul, Nat.reducePow, Nat.reduceLT, Int.reduceBEq, Int.reduceBNe, Int.reduceAdd, Int.reduceSub, Int.reduceMul, Int.reduceGT, Int.reduceGE, decS, Int.reduceNe, Int.reduceEq, fillOk, fillAV]
    refine acK_rd (int_x B hB _ h2) rfl (fun _ => rfl) (fun _ => rfl) rfl (fun _ => rfl) (fun _ => rfl) rfl ?_
    simp -implicitDefEqProofs (maxSteps := 500000) (disch := first | decide | omega) only [↓preS, ↓reduceIte, allS, Nat.reduceBEq, Nat.reduceAdd, Nat.reduceEqDiff, reduceIte, Int.reduceToNat, Int.reduceLE, Int.reduceLT, Nat.reduceLeDiff, Nat.reduceMul, Nat.reducePow, Nat.reduceLT, Int.reduceBEq, Int.reduceBNe, Int.reduceAdd, Int.reduceSub, Int.reduceMul, Int.reduceGT, Int.reduceGE, decS, Int.reduceNe, Int.reduceEq, fillOk, fillAV]
    refine acK_rd (vec_x B hB _ h3) rfl (fun _ => rfl) (fun _ => rfl) rfl (fun _ => rfl) (fun _ => rfl) rfl ?_
    simp -implicitDefEqProofs (maxSteps := 500000) (disch := first | decide | omega) only [↓preS, ↓reduceIte, allS, Nat.reduceBEq, Nat.reduceAdd, Nat.reduceEqDiff, reduceIte, Int.reduceToNat, Int.reduceLE, Int.reduceLT, Nat.reduceLeDiff, Nat.reduceMul, Nat.reducePow, Nat.reduceLT, Int.reduceBEq, Int.reduceBNe, Int.reduceAdd, Int.reduceSub, Int.reduceMul, Int.reduceGT, Int.reduceGE, decS, Int.reduceNe, Int.reduceEq, fillOk, fillAV]
    refine acK_rd (int_x B hB _ h5) rfl (fun _ => rfl) (fun _ => rfl) rfl (fun _ => rfl) (fun _ => rfl) rfl ?_
    simp -implicitDefEqProofs (maxSteps := 500000) (disch := first | decide | omega) only [↓preS, ↓reduceIte, allS, Nat.reduceBEq, Nat.reduceAdd, Nat.reduceEqDiff, reduceIte, Int.reduceToNat, Int.reduceLE, Int.reduceLT, Nat.reduceLeDiff, Nat.reduceMul, Nat.reducePow, Nat.reduceLT, Int.reduceBEq, Int.reduceBNe, Int.reduceAdd, Int.reduceSub, Int.reduceMul, Int.reduceGT, Int.reduceGE, decS, Int.reduceNe, Int.reduceEq, fillOk, fillAV]
    refine acK_rd (int_x B hB _ h6) rfl (fun _ => rfl) (fun _ => rfl) rfl (fun _ => rfl) (fun _ => rfl) rfl ?_
    simp -implicitDefEqProofs (maxSteps := 500000) (disch := first | decide | omega) only [↓preS, ↓reduceIte, allS, Nat.reduceBEq, Nat.reduceAdd, Nat.reduceEqDiff, reduceIte, Int.reduceToNat, Int.reduceLE, Int.reduceLT, Nat.reduceLeDiff, Nat.reduceMul, Nat.reducePow, Nat.reduceLT, Int.reduceBEq, Int.reduceBNe, Int.reduceAdd, Int.reduceSub, Int.reduceMul, Int.reduceGT, Int.reduceGE, decS, Int.reduceNe, Int.reduceEq, fillOk, fillAV]
    refine acK_rd (int_x B hB _ h7) rfl (fun _ => rfl) (fun _ => rfl) rfl (fun _ => rfl) (fun _ => rfl) rfl ?_
    have ec : cont1 s = (⟨(intR s).1, (intR (intR s).2).1, (intR (intR (intR s).2).2).1, (intR (intR (intR (intR s).2).2).2).1, (intR (intR (intR (intR (intR s).2).2).2).2).1, (intR (intR (intR (intR (intR (intR s).2).2).2).2).2).1, (intR (intR (intR (intR (intR (intR (intR s).2).2).2).2).2).2).1, (intR (intR (intR (intR (intR (intR (intR (intR s).2).2).2).2).2).2).2).1 == 1, (intR (markR (intR (intR (intR (intR (intR (intR (intR (intR s).2).2).2).2).2).2).2).1 (intR (intR (intR (intR (intR (intR (intR (intR s).2).2).2).2).2).2).2).2)).1⟩, (intR (markR (intR (intR (intR (intR (intR (intR (intR (intR s).2).2).2).2).2).2).2).1 (intR (intR (intR (intR (intR (intR (intR (intR s).2).2).2).2).2).2).2).2)).2) := rfl
    rw [ec]
    generalize intR (intR (intR (intR (intR (intR (intR (intR s).2).2).2).2).2).2).2 = q at h8 ⊢
    obtain ⟨m, u⟩ := q
    simp only at h8 ⊢
    by_cases hm : m ≠ 0 ∧ m ≠ 1
    · have em : markR m u = failR u 10 := if_pos hm
      rw [em]
      simp -implicitDefEqProofs (maxSteps := 500000) (disch := first | decide | omega) only [↓preS, ↓reduceIte, allS, Nat.reduceBEq, Nat.reduceAdd, Nat.reduceEqDiff, reduceIte, Int.reduceToNat, Int.reduceLE, Int.reduceLT, Nat.reduceLeDiff, Nat.reduceMul, Nat.reducePow, Nat.reduceLT, Int.reduceBEq, Int.reduceBNe, Int.reduceAdd, Int.reduceSub, Int.reduceMul, Int.reduceGT, Int.reduceGE, decS, Int.reduceNe, Int.reduceEq, fillOk, fillAV]
      refine acK_rd (fail_x B u 10) rfl (fun _ => rfl) (fun _ => rfl) rfl (fun _ => rfl) (fun _ => rfl) rfl ?_
      simp -implicitDefEqProofs (maxSteps := 500000) (disch := first | decide | omega) only [↓preS, ↓reduceIte, allS, Nat.reduceBEq, Nat.reduceAdd, Nat.reduceEqDiff, reduceIte, Int.reduceToNat, Int.reduceLE, Int.reduceLT, Nat.reduceLeDiff, Nat.reduceMul, Nat.reducePow, Nat.reduceLT, Int.reduceBEq, Int.reduceBNe, Int.reduceAdd, Int.reduceSub, Int.reduceMul, Int.reduceGT, Int.reduceGE, decS, Int.reduceNe, Int.reduceEq, fillOk, fillAV]
      refine acK_rd (int_x B hB (failR u 10) h8) rfl (fun _ => rfl) (fun _ => rfl) rfl (fun _ => rfl) (fun _ => rfl) rfl ?_
      simp -implicitDefEqProofs (maxSteps := 500000) (disch := first | decide | omega) only [↓preS, ↓reduceIte, allS, Nat.reduceBEq, Nat.reduceAdd, Nat.reduceEqDiff, reduceIte, Int.reduceToNat, Int.reduceLE, Int.reduceLT, Nat.reduceLeDiff, Nat.reduceMul, Nat.reducePow, Nat.reduceLT, Int.reduceBEq, Int.reduceBNe, Int.reduceAdd, Int.reduceSub, Int.reduceMul, Int.reduceGT, Int.reduceGE, decS, Int.reduceNe, Int.reduceEq, fillOk, fillAV]
      exact ⟨rfl, _, rfl⟩
    · have em : markR m u = u := if_neg hm
      rw [em]
      have hm2 : m = 0 ∨ m = 1 := by omega
      rcases hm2 with rfl | rfl
      · simp -implicitDefEqProofs (maxSteps := 500000) (disch := first | decide | omega) only [↓preS, ↓reduceIte, allS, Nat.reduceBEq, Nat.reduceAdd, Nat.reduceEqDiff, reduceIte, Int.reduceToNat, Int.reduceLE, Int.reduceLT, Nat.reduceLeDiff, Nat.reduceMul, Nat.reducePow, Nat.reduceLT, Int.reduceBEq, Int.reduceBNe, Int.reduceAdd, Int.reduceSub, Int.reduceMul, Int.reduceGT, Int.reduceGE, decS, Int.reduceNe, Int.reduceEq, fillOk, fillAV]
        refine acK_rd (int_x B hB u h8) rfl (fun _ => rfl) (fun _ => rfl) rfl (fun _ => rfl) (fun _ => rfl) rfl ?_
        simp -implicitDefEqProofs (maxSteps := 500000) (disch := first | decide | omega) only [↓preS, ↓reduceIte, allS, Nat.reduceBEq, Nat.reduceAdd, Nat.reduceEqDiff, reduceIte, Int.reduceToNat, Int.reduceLE, Int.reduceLT, Nat.reduceLeDiff, Nat.reduceMul, Nat.reducePow, Nat.reduceLT, Int.reduceBEq, Int.reduceBNe, Int.reduceAdd, Int.reduceSub, Int.reduceMul, Int.reduceGT, Int.reduceGE, decS, Int.reduceNe, Int.reduceEq, fillOk, fillAV]
        exact ⟨rfl, _, rfl⟩
      · simp -implicitDefEqProofs (maxSteps := 500000) (disch := first | decide | omega) only [↓preS, ↓reduceIte, allS, Nat.reduceBEq, Nat.reduceAdd, Nat.reduceEqDiff, reduceIte, Int.reduceToNat, Int.reduceLE, Int.reduceLT, Nat.reduceLeDiff, Nat.reduceMul, Nat.reducePow, Nat.reduceLT, Int.reduceBEq, Int.reduceBNe, Int.reduceAdd, Int.reduceSub, Int.reduceMul, Int.reduceGT, Int.reduceGE, decS, Int.reduceNe, Int.reduceEq, fillOk, fillAV]
        refine acK_rd (int_x B hB u h8) rfl (fun _ => rfl) (fun _ => rfl) rfl (fun _ => rfl) (fun _ => rfl) rfl ?_
        simp -implicitDefEqProofs (maxSteps := 500000) (disch := first | decide | omega) only [↓preS, ↓reduceIte, allS, Nat.reduceBEq, Nat.reduceAdd, Nat.reduceEqDiff, reduceIte, Int.reduceToNat, Int.reduceLE, Int.reduceLT, Nat.reduceLeDiff, Nat.reduceMul, Nat.reducePow, Nat.reduceLT, Int.reduceBEq, Int.reduceBNe, Int.reduceAdd, Int.reduceSub, Int.reduceMul, Int.reduceGT, Int.reduceGE, decS, Int.reduceNe, Int.reduceEq, fillOk, fillAV]
        exact ⟨rfl, _, rfl⟩
  refine key.sub ?_
  rintro y G ⟨rfl, G, rfl⟩
  refine ⟨_, _, ?_, rfl, rfl⟩
  simp only [XS, XO, CONT]
  (refine Sub.ofL [some 0] rfl (by simp) (by decide) (by simp [partL, AO.ro, AV.ro, AV.roL, names, AO.empty, SB, U8, SI, I64, STR]) (by simp [AO.bo, AV.bo, AV.boL, names]) ?_ <;> (try simp only [List.map_cons, List.map_nil, regsL, AV.ro, AV.roL, AV.bo, AV.boL, names, get_here, get_there, Nat.reduceBEq, List.getD_cons_zero, List.getD_cons_succ, List.getD_nil, and_true, true_and, Nat.reduceLT, List.length_cons, List.length_nil, Nat.reduceAdd, decide_true, Option.isSome_some, Bool.true_or, Bool.and_self, Option.isSome_none, Bool.false_or, beq_self_eq_true, wk0_self, wk0_nils]) <;> (try and_intros) <;> (first | done | rfl | exact .inl rfl | exact .inr ⟨rfl, _, _, rfl⟩ | (simp; done) | (simp; omega) | (refine .inl ?_; simp; done) | (refine .inl ?_; simp; omega)))

set_option maxRecDepth 20000 in
set_option maxHeartbeats 2000000 in
theorem loop28 (B : List UInt8) (hB : B.length < 2 ^ 62) (z : List AV) (hz : z = [.int .i64 0, .nils, .nils, .nils, .int .i64 0]) (e n : Int) (s : RS) (hn : n ≤ 300 ∨ s.e ≠ 0) (hs : Suf B s) (Q : AE → St → Prop)
    (h : ∀ m, m ≤ n.toNat → (m = n.toNat ∨ (contsN m s).2.e ≠ 0) → Q .normal ⟨[(2, .ref 0 0 0), (4, .ref 1 0 0), (5, .ref 2 0 0)], [.box z, XS B (contsN m s).2, .box (Own4 e 0 (contsN m s).1.length .nils .nils), .arr 9 ((contsN m s).1.map CONT)]⟩) :
    aw Try.prog cc28L0 Q ⟨[(2, .ref 0 0 0), (4, .ref 1 0 0), (5, .ref 2 0 0), (6, .int .i64 n), (7, .int .i64 0)], [.box z, XS B s, .box [.int .i64 e, .nils, .nils, .nils, .int .i64 0]]⟩ := by
  subst hz
  unfold cc28L0
  simp -implicitDefEqProofs (maxSteps := 500000) (disch := first | decide | omega) only [↓preS, ↓reduceIte, allS, Nat.reduceBEq, Nat.reduceAdd, Nat.reduceEqDiff, reduceIte, Int.reduceToNat, Int.reduceLE, Int.reduceLT, Nat.reduceLeDiff, Nat.reduceMul, Nat.reducePow, Nat.reduceLT, Int.reduceBEq, Int.reduceBNe, Int.reduceAdd, Int.reduceSub, Int.reduceMul, Int.reduceGT, Int.reduceGE, decS, Int.reduceNe, Int.reduceEq]
  refine aw_loopS (σ := Nat) (fun i => ⟨[(2, .ref 0 0 0), (4, .ref 1 0 0), (5, .ref 2 0 0), (6, .int .i64 n), (7, .int .i64 (i : Int))], [.box [.int .i64 0, .nils, .nils, .nils, .int .i64 0], XS B (contsN i s).2, .box (Own4 e 0 (contsN i s).1.length .nils .nils), .arr 9 ((contsN i s).1.map CONT)]⟩)
    (fun i => i ≤ n.toNat ∧ (s.e ≠ 0 → i = 0)) (fun i => n.toNat - i) 0 ?_ (by simp) ?_
  · simp only [contsN, List.map_nil, List.length_nil, XS, XO, Own4]
    (refine Sub.ofL [some 0, some 1, some 2, none] rfl (by simp) (by decide) (by simp [partL, AO.ro, AV.ro, AV.roL, names, AO.empty, SB, U8, SI, I64, STR]) (by simp [AO.bo, AV.bo, AV.boL, names]) ?_ <;> (try simp only [List.map_cons, List.map_nil, regsL, AV.ro, AV.roL, AV.bo, AV.boL, names, get_here, get_there, Nat.reduceBEq, List.getD_cons_zero, List.getD_cons_succ, List.getD_nil, and_true, true_and, Nat.reduceLT, List.length_cons, List.length_nil, Nat.reduceAdd, decide_true, Option.isSome_some, Bool.true_or, Bool.and_self, Option.isSome_none, Bool.false_or, beq_self_eq_true, wk0_self, wk0_nils]) <;> (try and_intros) <;> (first | done | rfl | exact .inl rfl | exact .inr ⟨rfl, _, _, rfl⟩ | (simp; done) | (simp; omega) | (refine .inl ?_; simp; done) | (refine .inl ?_; simp; omega)))
  rintro i ⟨hi, hi3⟩
  unfold cc28l0
  have hl := contsN_len i s
  have hsi := suf_conts i hs
  have hh := h i hi
  have hsn := contsN_snoc i s
  have h0 : i = 0 → (contsN i s).2 = s := by intro e; subst e; rfl
  by_cases hin : (i : Int) < n
  · by_cases he : (contsN i s).2.e = 0
    · have hse : s.e = 0 := by
        by_cases h9 : s.e = 0
        · exact h9
        · rw [h0 (hi3 h9)] at he; exact absurd he h9
      have hn3 : n ≤ 300 := by
        rcases hn with hn | hn
        · exact hn
        · exact absurd hse hn
      generalize contsN i s = q at hl hsi hh hsn he ⊢
      obtain ⟨l, u, e0⟩ := q
      simp only at hl hsi hsn he ⊢
      subst he hl
      have fin : ∀ y z, ∃ j : Nat, Ab.Sub 0 (keepK (some [2, 4, 5, 6, 7]) ⟨[(2, .ref 0 0 0), (4, .ref 1 0 0), (5, .ref 2 0 0), (6, .int .i64 n), (7, .int .i64 ((l.length : Int) + 1))], [.box [.int .i64 0, .nils, .nils, .nils, .int .i64 0], XS B (cont1 ⟨u, 0⟩).2, .box (Own4 e 0 0 .nils .nils |>.set 1 (.own 5 9 0 (l.length + 1))), y, z, .arr 9 ((l ++ [(cont1 ⟨u, 0⟩).1]).map CONT)]⟩)
          ⟨[(2, .ref 0 0 0), (4, .ref 1 0 0), (5, .ref 2 0 0), (6, .int .i64 n), (7, .int .i64 (j : Int))], [.box [.int .i64 0, .nils, .nils, .nils, .int .i64 0], XS B (contsN j s).2, .box (Own4 e 0 (contsN j s).1.length .nils .nils), .arr 9 ((contsN j s).1.map CONT)]⟩ ∧ (j ≤ n.toNat ∧ (s.e ≠ 0 → j = 0)) ∧ n.toNat - j < n.toNat - l.length := by
        intro y z
        refine ⟨l.length + 1, ?_, ⟨by omega, fun h => absurd hse h⟩, by omega⟩
        rw [hsn]
        simp only [List.length_append, List.length_singleton]
        generalize (l ++ [(cont1 ⟨u, 0⟩).1]).map CONT = q
        simp only [XS, XO, Own4, List.set]
        (refine Sub.ofL [some 0, some 1, some 2, some 5] rfl (by simp) (by decide) (by simp [partL, AO.ro, AV.ro, AV.roL, names, AO.empty, SB, U8, SI, I64, STR]) (by simp [AO.bo, AV.bo, AV.boL, names]) ?_ <;> (try simp only [List.map_cons, List.map_nil, regsL, AV.ro, AV.roL, AV.bo, AV.boL, names, get_here, get_there, Nat.reduceBEq, List.getD_cons_zero, List.getD_cons_succ, List.getD_nil, and_true, true_and, Nat.reduceLT, List.length_cons, List.length_nil, Nat.reduceAdd, decide_true, Option.isSome_some, Bool.true_or, Bool.and_self, Option.isSome_none, Bool.false_or, beq_self_eq_true, wk0_self, wk0_nils]) <;> (try and_intros) <;> (first | done | rfl | exact .inl rfl | exact .inr ⟨rfl, _, _, rfl⟩ | (simp; done) | (simp; omega) | (refine .inl ?_; simp; done) | (refine .inl ?_; simp; omega)))
      simp only [Own4, List.set, XS, XO] at fin
      simp -implicitDefEqProofs (maxSteps := 500000) (disch := first | decide | omega) only [↓preS, ↓reduceIte, allS, Nat.reduceBEq, Nat.reduceAdd, Nat.reduceEqDiff, reduceIte, Int.reduceToNat, Int.reduceLE, Int.reduceLT, Nat.reduceLeDiff, Nat.reduceMul, Nat.reducePow, Nat.reduceLT, Int.reduceBEq, Int.reduceBNe, Int.reduceAdd, Int.reduceSub, Int.reduceMul, Int.reduceGT, Int.reduceGE, decS, Int.reduceNe, Int.reduceEq, XS, XO, Own4]
      refine ⟨?_, ?_⟩ <;>
      · refine acK_rd (cont_x B hB ⟨u, 0⟩ hsi) rfl (fun _ => rfl) (fun _ => rfl) rfl (fun _ => rfl) (fun _ => rfl) rfl ?_
        simp -implicitDefEqProofs (maxSteps := 500000) (disch := first | decide | omega) only [↓preS, ↓reduceIte, allS, Nat.reduceBEq, Nat.reduceAdd, Nat.reduceEqDiff, reduceIte, Int.reduceToNat, Int.reduceLE, Int.reduceLT, Nat.reduceLeDiff, Nat.reduceMul, Nat.reducePow, Nat.reduceLT, Int.reduceBEq, Int.reduceBNe, Int.reduceAdd, Int.reduceSub, Int.reduceMul, Int.reduceGT, Int.reduceGE, decS, Int.reduceNe, Int.reduceEq, Own4, nxt_cont, CONT_cells, app_cont, XS, XO]
        repeat' first | exact fin _ _ | omega | apply And.intro
    · have hx := hh (.inr he)
      generalize contsN i s = q at hl hsi hx he ⊢
      obtain ⟨l, u, e0⟩ := q
      simp only at hl hsi he ⊢
      simp -implicitDefEqProofs (maxSteps := 500000) (disch := first | decide | omega) only [↓preS, ↓reduceIte, allS, Nat.reduceBEq, Nat.reduceAdd, Nat.reduceEqDiff, reduceIte, Int.reduceToNat, Int.reduceLE, Int.reduceLT, Nat.reduceLeDiff, Nat.reduceMul, Nat.reducePow, Nat.reduceLT, Int.reduceBEq, Int.reduceBNe, Int.reduceAdd, Int.reduceSub, Int.reduceMul, Int.reduceGT, Int.reduceGE, decS, Int.reduceNe, Int.reduceEq, XS, XO, he]
      exact hx
  · have hx := hh (.inl (by omega))
    simp -implicitDefEqProofs (maxSteps := 500000) (disch := first | decide | omega) only [↓preS, ↓reduceIte, allS, Nat.reduceBEq, Nat.reduceAdd, Nat.reduceEqDiff, reduceIte, Int.reduceToNat, Int.reduceLE, Int.reduceLT, Nat.reduceLeDiff, Nat.reduceMul, Nat.reducePow, Nat.reduceLT, Int.reduceBEq, Int.reduceBNe, Int.reduceAdd, Int.reduceSub, Int.reduceMul, Int.reduceGT, Int.reduceGE, decS, Int.reduceNe, Int.reduceEq]
    exact hx

theorem cont_err {s : RS} (h : s.e ≠ 0) : (cont1 s).2 = s := by
  have hm : ∀ m, markR m s = s := by
    intro m
    unfold markR failR
    split
    · simp only [h, if_false]
    · rfl
  unfold cont1
  simp only [int_err h, hm]
theorem contsN_err : ∀ (n : Nat) {s : RS}, s.e ≠ 0 → (contsN n s).2 = s
  | 0, s, h => rfl
  | n + 1, s, h => by
    have h2 : (cont1 s).2.e ≠ 0 := by rw [cont_err h]; exact h
    show (contsN n (cont1 s).2).2 = s
    rw [contsN_err n h2, cont_err h]
theorem contsN_add : ∀ (m n : Nat) (s : RS), (contsN (m + n) s).2 = (contsN n (contsN m s).2).2
  | m, 0, s => rfl
  | m, n + 1, s => by
    rw [show m + (n + 1) = (m + n) + 1 by omega, contsN_snoc, contsN_snoc, contsN_add m n s]
theorem contsN_stop {m n : Nat} (h : m ≤ n) {s : RS} (he : (contsN m s).2.e ≠ 0) : (contsN n s).2 = (contsN m s).2 := by
  obtain ⟨d, rfl⟩ : ∃ d, n = m + d := ⟨n - m, by omega⟩
  rw [contsN_add, contsN_err d he]

/-- The same error; where there is none, the same. -/
def SimO (a b : Out × RS) : Prop := a.2.e = b.2.e ∧ (b.2.e = 0 → a.1 = b.1 ∧ a.2.b = b.2.b)
theorem simO_end {a b : Out × RS} (h : SimO a b) : endE a.2 = endE b.2 := by
  obtain ⟨h1, h2⟩ := h
  unfold endE
  by_cases he : b.2.e = 0
  · rw [h1, (h2 he).2]
  · rw [h1, if_neg (fun h => he h.1), if_neg (fun h => he h.1)]
theorem endE_zero {s : RS} (h : endE s = 0) : s.e = 0 := by
  unfold endE at h
  split at h
  · cases h
  · exact h
theorem simO_done {a b : Out × RS} (h : SimO a b) : doneO a = doneO b := by
  have he := simO_end h
  unfold doneO
  rw [he]
  by_cases h0 : endE b.2 ≠ 0
  · rw [if_pos h0, if_pos h0]
  · rw [if_neg h0, if_neg h0]
    simp only [ne_eq, Decidable.not_not] at h0
    rw [(h.2 (endE_zero h0)).1]

def restX (e : Int) (cs : List Cont) (s : RS) : Out × RS :=
  let i := intsX s
  let g := intsX i.2
  let m := intR g.2
  (⟨e, cs, i.1, g.1, m.1⟩, m.2)
def restY (e : Int) (cs : List Cont) (s : RS) : Out × RS :=
  let i := intsR s
  let g := intsR i.2
  let m := intR g.2
  (⟨e, cs, i.1, g.1, m.1⟩, m.2)
theorem restX_err {e : Int} {cs : List Cont} {s : RS} (h : s.e ≠ 0) : (restX e cs s).2 = s := by
  unfold restX
  simp only [intsX_err h, int_err h]
theorem restY_err {e : Int} {cs : List Cont} {s : RS} (h : s.e ≠ 0) : (restY e cs s).2 = s := by
  unfold restY
  simp only [ints_err h, int_err h]
theorem like_e {a b : RS} (h : Like a b) : a.e = b.e := h.1
theorem restX_sim (e : Int) (cs : List Cont) (s : RS) : SimO (restX e cs s) (restY e cs s) := by
  obtain ⟨g1, g2⟩ := like_ints (a := s) (b := s) ⟨rfl, fun _ => rfl⟩
  obtain ⟨g3, g4⟩ := like_ints g2
  unfold SimO restX restY
  simp only
  rw [← g1, ← g3]
  obtain ⟨g5, g6⟩ := g4
  by_cases he : (intsR (intsR s).2).2.e = 0
  · have e2 : (intsR (intsR s).2).2 = (intsX (intsX s).2).2 := by
      have := g6 he
      rcases hq : (intsR (intsR s).2).2 with ⟨l, e⟩
      rcases hr : (intsX (intsX s).2).2 with ⟨m, f⟩
      rw [hq, hr] at g5 this
      simp only at g5 this
      rw [g5, this]
    rw [e2]
    exact ⟨rfl, fun _ => ⟨rfl, rfl⟩⟩
  · rw [int_err he, int_err (by rw [← g5]; exact he)]
    exact ⟨g5.symm, fun h => absurd h he⟩
end Go.Proofs.Ytgpipheibnlkhaa
