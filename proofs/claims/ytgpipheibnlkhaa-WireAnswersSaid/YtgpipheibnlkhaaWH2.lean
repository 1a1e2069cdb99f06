/- What functions of the program compute. No condition. -/
import Derived.Test.YtgpipheibnlkhaaWRg
import Derived.Test.YtgpipheibnlkhaaWH1
set_option linter.unusedSimpArgs false
set_option linter.unusedVariables false
namespace Go.Proofs.Ytgpipheibnlkhaa
open Go Go.Ab

theorem suf_int {B : List UInt8} {s : RS} (h : Suf B s) : Suf B (intR s).2 := by
  unfold intR
  split
  · split
    · exact suf_drop h 8 (by assumption) 0
    · exact h
  · exact h
theorem suf_text {B : List UInt8} {s : RS} (h : Suf B s) : Suf B (textR s).2 := by
  unfold textR
  split
  · split
    · rename_i h2
      have h3 : Suf B ⟨s.b.drop 2, 0⟩ := suf_drop h 2 h2 0
      split
      · rename_i h4
        exact suf_drop h3 _ h4 0
      · exact h3
    · exact h
  · exact h
theorem suf_ints {B : List UInt8} {s : RS} (h : Suf B s) : Suf B (intsX s).2 := by
  unfold intsX
  split
  · split
    · rename_i h2
      have h3 : Suf B ⟨s.b.drop 2, 0⟩ := suf_drop h 2 h2 0
      split
      · rename_i h4
        exact suf_drop h3 _ h4 0
      · exact h3
    · exact h
  · exact h
theorem suf_fail {B : List UInt8} {s : RS} (h : Suf B s) (v : Int) : Suf B (failR s v) := h
theorem suf_ask {B : List UInt8} {s : RS} (h : Suf B s) : Suf B (ask1 s).2 := suf_int (suf_int (suf_int (suf_int (suf_int (suf_int (suf_int h))))))
theorem suf_asks {B : List UInt8} : ∀ (n : Nat) {s : RS}, Suf B s → Suf B (asksN n s).2
  | 0, s, h => h
  | n + 1, s, h => suf_asks n (suf_ask h)

/-- What is told of a result may be less. -/
theorem ACall.weak {P : Program} {f : FuncId} {args : List AV} {H : List AO} {Post Post' : AV → List AO → Prop} (h : ACall P f args H Post) (hk : ∀ y G, Post y G → ∃ y', Wk3 y y' ∧ Post' y' G) : ACall P f args H Post' :=
  ⟨h.1, fun E vs hm hl hv => (h.2 E vs hm hl hv).mono fun e w' ⟨v, y, H', E', h1, h2, h3, h4, h5, h6⟩ => by
    obtain ⟨y', g1, g2⟩ := hk y H' h6
    exact ⟨v, y', H', E', h1, h2, g1.vr h3, h4, h5, g2⟩⟩
theorem ACall.wk3 {P : Program} {f : FuncId} {args : List AV} {H : List AO} {y : AV} {Q : List AO → Prop} (h : ACall P f args H fun r G => Wk3 r y ∧ Q G) : ACall P f args H fun r G => r = y ∧ Q G :=
  ⟨h.1, fun E vs hm hl hv => (h.2 E vs hm hl hv).mono fun e w' ⟨v, y', H', E', h1, h2, h3, h4, h5, h6, h7⟩ => ⟨v, y, H', E', h1, h2, h6.vr h3, h4, h5, rfl, h7⟩⟩

theorem fz_XS (B : List UInt8) (s : RS) (j z : Nat) (l : List AV) : AO.fz j z l (XS B s) = XS B s := rfl

theorem vec_x (B : List UInt8) (hB : B.length < 2 ^ 62) (s : RS) (hs : Suf B s) : ACall Try.prog 75 [.ref 0 0 0] [XS B s] fun y H' => y = .agg [.int .i64 (intR s).1, .int .i64 (intR (intR s).2).1] ∧ H' = [XS B (intR (intR s).2).2] := by
  have key : ACall Try.prog 75 [.ref 0 0 0] [XS B s] fun y H' => y = .agg [.int .i64 (intR s).1, .int .i64 (intR (intR s).2).1] ∧ ∃ G, H' = XS B (intR (intR s).2).2 :: G := by
    refine acallR_at isR75 (by simp) rfl ?_
    unfold cc75
    simp -implicitDefEqProofs (maxSteps := 500000) (disch := first | decide | omega) only [↓preS, ↓reduceIte, allS, Nat.reduceBEq, Nat.reduceAdd, Nat.reduceEqDiff, reduceIte, Int.reduceToNat, Int.reduceLE, Int.reduceLT, Nat.reduceLeDiff, Nat.reduceMul, Nat.reducePow, Nat.reduceLT, Int.reduceBEq, Int.reduceBNe, Int.reduceAdd, Int.reduceSub, Int.reduceMul, Int.reduceGT, Int.reduceGE, decS, Int.reduceNe, Int.reduceEq]
    refine acK_rd (int_x B hB s hs) rfl (fun _ => rfl) (fun _ => rfl) rfl (fun _ => rfl) (fun _ => rfl) rfl ?_
    simp -implicitDefEqProofs (maxSteps := 500000) (disch := first | decide | omega) only [↓preS, ↓reduceIte, allS, Nat.reduceBEq, Nat.reduceAdd, Nat.reduceEqDiff, reduceIte, Int.reduceToNat, Int.reduceLE, Int.reduceLT, Nat.reduceLeDiff, Nat.reduceMul, Nat.reducePow, Nat.reduceLT, Int.reduceBEq, Int.reduceBNe, Int.reduceAdd, Int.reduceSub, Int.reduceMul, Int.reduceGT, Int.reduceGE, decS, Int.reduceNe, Int.reduceEq]
    refine acK_rd (int_x B hB (intR s).2 (suf_int hs)) rfl (fun _ => rfl) (fun _ => rfl) rfl (fun _ => rfl) (fun _ => rfl) rfl ?_
    simp -implicitDefEqProofs (maxSteps := 500000) (disch := first | decide | omega) only [↓preS, ↓reduceIte, allS, Nat.reduceBEq, Nat.reduceAdd, Nat.reduceEqDiff, reduceIte, Int.reduceToNat, Int.reduceLE, Int.reduceLT, Nat.reduceLeDiff, Nat.reduceMul, Nat.reducePow, Nat.reduceLT, Int.reduceBEq, Int.reduceBNe, Int.reduceAdd, Int.reduceSub, Int.reduceMul, Int.reduceGT, Int.reduceGE, decS, Int.reduceNe, Int.reduceEq, fillOk, fillAV]
    exact ⟨_, rfl⟩
  refine key.sub ?_
  rintro y G ⟨rfl, G, rfl⟩
  refine ⟨_, _, ?_, rfl, rfl⟩
  simp only [XS, XO]
  (refine Sub.ofL [some 0] rfl (by simp) (by decide) (by simp [partL, AO.ro, AV.ro, AV.roL, names, AO.empty, SB, U8, SI, I64, STR]) (by simp [AO.bo, AV.bo, AV.boL, names]) ?_ <;> (try simp only [List.map_cons, List.map_nil, regsL, AV.ro, AV.roL, AV.bo, AV.boL, names, get_here, get_there, Nat.reduceBEq, List.getD_cons_zero, List.getD_cons_succ, List.getD_nil, and_true, true_and, Nat.reduceLT, List.length_cons, List.length_nil, Nat.reduceAdd, decide_true, Option.isSome_some, Bool.true_or, Bool.and_self, Option.isSome_none, Bool.false_or, beq_self_eq_true, wk0_self, wk0_nils]) <;> (try and_intros) <;> (first | done | rfl | exact .inl rfl | exact .inr ⟨rfl, _, _, rfl⟩ | (simp; done) | (simp; omega) | (refine .inl ?_; simp; done) | (refine .inl ?_; simp; omega)))

theorem asksN_snoc2 (n : Nat) (s : RS) : asksN (n + 1) s = ((asksN n s).1 ++ [(ask1 (asksN n s).2).1], (ask1 (asksN n s).2).2) := asksN_snoc n s

theorem fz1_all {α : Type} {f : α → AV} {l : List α} {id z : Nat} : AV.fz1 id z (l.map f) (.own id z 0 l.length) = .sl false z (l.map f) := by
  show (if id = id ∧ z = z ∧ 0 + l.length ≤ (l.map f).length then AV.sl false z (((l.map f).drop 0).take l.length) else _) = _
  rw [if_pos ⟨rfl, rfl, by simp⟩, List.drop_zero, List.take_of_length_le (by simp)]

def Z76 (k a b : Int) (q d : AV) : List AV := [.int .i64 k, .int .i64 a, .int .i64 b, .int .i64 0, .str [], .int .i64 0, .int .i64 0, .int .i64 0, .int .i64 0, .int .i64 0, .int .i64 0, .int .i64 0, .bool false,
  .int .i64 0, .int .i64 0, .str [], .int .i64 0, .int .i64 0, .int .i64 0, .int .i64 0, .nils, .int .i64 0, .int .i64 0, .nils, .nils, .nils, .nils, q, d, .int .i64 0, .int .i64 0, .int .i64 0, .int .i64 0, .int .i64 0, .int .i64 0]

set_option maxRecDepth 20000 in
set_option maxHeartbeats 4000000 in
theorem loop76 (B : List UInt8) (hB : B.length < 2 ^ 62) (k a b : Int) (n : Nat) (hn : n ≤ 20) (s : RS) (hs : Suf B s) (Q : AE → St → Prop)
    (h : ∀ m, m ≤ n → (m = n ∨ (asksN m s).2.e ≠ 0) → Q .normal ⟨[(0, .ref 0 0 0), (3, .ref 1 0 0), (4, .ref 2 0 0)], [XS B (asksN m s).2, .box (Z76 k a b (.own 3 8 0 (asksN m s).1.length) .nils), .box (inpZ 0), .arr 8 ((asksN m s).1.map ASK)]⟩) :
    aw Try.prog cc76L0 Q ⟨[(0, .ref 0 0 0), (3, .ref 1 0 0), (4, .ref 2 0 0), (5, .int .i64 (n : Int)), (6, .int .i64 0)], [XS B s, .box (Z76 k a b .nils .nils), .box (inpZ 0)]⟩ := by
  unfold cc76L0
  simp -implicitDefEqProofs (maxSteps := 500000) (disch := first | decide | omega) only [↓preS, ↓reduceIte, allS, Nat.reduceBEq, Nat.reduceAdd, Nat.reduceEqDiff, reduceIte, Int.reduceToNat, Int.reduceLE, Int.reduceLT, Nat.reduceLeDiff, Nat.reduceMul, Nat.reducePow, Nat.reduceLT, Int.reduceBEq, Int.reduceBNe, Int.reduceAdd, Int.reduceSub, Int.reduceMul, Int.reduceGT, Int.reduceGE, decS, Int.reduceNe, Int.reduceEq]
  refine aw_loopS (σ := Nat) (fun i => ⟨[(0, .ref 0 0 0), (3, .ref 1 0 0), (4, .ref 2 0 0), (5, .int .i64 (n : Int)), (6, .int .i64 (i : Int))], [XS B (asksN i s).2, .box (Z76 k a b (.own 3 8 0 (asksN i s).1.length) .nils), .box (inpZ 0), .arr 8 ((asksN i s).1.map ASK)]⟩)
    (fun i => i ≤ n) (fun i => n - i) 0 ?_ (by simp) ?_
  · simp only [asksN, List.map_nil, List.length_nil, XS, XO, Z76, inpZ]
    (refine Sub.ofL [some 0, some 1, some 2, none] rfl (by simp) (by decide) (by simp [partL, AO.ro, AV.ro, AV.roL, names, AO.empty, SB, U8, SI, I64, STR]) (by simp [AO.bo, AV.bo, AV.boL, names]) ?_ <;> (try simp only [List.map_cons, List.map_nil, regsL, AV.ro, AV.roL, AV.bo, AV.boL, names, get_here, get_there, Nat.reduceBEq, List.getD_cons_zero, List.getD_cons_succ, List.getD_nil, and_true, true_and, Nat.reduceLT, List.length_cons, List.length_nil, Nat.reduceAdd, decide_true, Option.isSome_some, Bool.true_or, Bool.and_self, Option.isSome_none, Bool.false_or, beq_self_eq_true, wk0_self, wk0_nils]) <;> (try and_intros) <;> (first | done | rfl | exact .inl rfl | exact .inr ⟨rfl, _, _, rfl⟩ | (simp; done) | (simp; omega) | (refine .inl ?_; simp; done) | (refine .inl ?_; simp; omega)))
  intro i hi
  unfold cc76l0
  have hl := asksN_len i s
  have hsi := suf_asks i hs
  have hh := h i hi
  have hsn := asksN_snoc2 i s
  by_cases hin : i < n
  · by_cases he : (asksN i s).2.e = 0
    · generalize asksN i s = q at hl hsi hh hsn he ⊢
      obtain ⟨l, u, e⟩ := q
      simp only at hl hsi hsn he ⊢
      subst he hl
      have hin3 : (l.length : Int) < (n : Int) := by omega
      have fin : ∀ y z w, ∃ j : Nat, Ab.Sub 1 ⟨[(0, .ref 0 0 0), (3, .ref 1 0 0), (4, .ref 2 0 0), (5, .int .i64 (n : Int)), (6, .int .i64 ((l.length : Int) + 1))], [XS B (ask1 ⟨u, 0⟩).2, .box (Z76 k a b (.own 6 8 0 (l.length + 1)) .nils), .box (inpZ 0), y, z, w, .arr 8 ((l ++ [(ask1 ⟨u, 0⟩).1]).map ASK)]⟩
          ⟨[(0, .ref 0 0 0), (3, .ref 1 0 0), (4, .ref 2 0 0), (5, .int .i64 (n : Int)), (6, .int .i64 (j : Int))], [XS B (asksN j s).2, .box (Z76 k a b (.own 3 8 0 (asksN j s).1.length) .nils), .box (inpZ 0), .arr 8 ((asksN j s).1.map ASK)]⟩ ∧ j ≤ n ∧ n - j < n - l.length := by
        intro y z w
        refine ⟨l.length + 1, ?_, by omega, by omega⟩
        rw [hsn]
        simp only [List.length_append, List.length_singleton]
        generalize (l ++ [(ask1 ⟨u, 0⟩).1]).map ASK = q
        simp only [XS, XO, Z76, inpZ]
        (refine Sub.ofL [some 0, some 1, some 2, some 6] rfl (by simp) (by decide) (by simp [partL, AO.ro, AV.ro, AV.roL, names, AO.empty, SB, U8, SI, I64, STR]) (by simp [AO.bo, AV.bo, AV.boL, names]) ?_ <;> (try simp only [List.map_cons, List.map_nil, regsL, AV.ro, AV.roL, AV.bo, AV.boL, names, get_here, get_there, Nat.reduceBEq, List.getD_cons_zero, List.getD_cons_succ, List.getD_nil, and_true, true_and, Nat.reduceLT, List.length_cons, List.length_nil, Nat.reduceAdd, decide_true, Option.isSome_some, Bool.true_or, Bool.and_self, Option.isSome_none, Bool.false_or, beq_self_eq_true, wk0_self, wk0_nils]) <;> (try and_intros) <;> (first | done | rfl | exact .inl rfl | exact .inr ⟨rfl, _, _, rfl⟩ | (simp; done) | (simp; omega) | (refine .inl ?_; simp; done) | (refine .inl ?_; simp; omega)))
      simp -implicitDefEqProofs (maxSteps := 500000) (disch := first | decide | omega) only [↓preS, ↓reduceIte, allS, Nat.reduceBEq, Nat.reduceAdd, Nat.reduceEqDiff, reduceIte, Int.reduceToNat, Int.reduceLE, Int.reduceLT, Nat.reduceLeDiff, Nat.reduceMul, Nat.reducePow, Nat.reduceLT, Int.reduceBEq, Int.reduceBNe, Int.reduceAdd, Int.reduceSub, Int.reduceMul, Int.reduceGT, Int.reduceGE, decS, Int.reduceNe, Int.reduceEq, XS, XO]
      refine acK_rd (int_x B hB ⟨u, 0⟩ hsi) rfl (fun _ => rfl) (fun _ => rfl) rfl (fun _ => rfl) (fun _ => rfl) rfl ?_
      simp -implicitDefEqProofs (maxSteps := 500000) (disch := first | decide | omega) only [↓preS, ↓reduceIte, allS, Nat.reduceBEq, Nat.reduceAdd, Nat.reduceEqDiff, reduceIte, Int.reduceToNat, Int.reduceLE, Int.reduceLT, Nat.reduceLeDiff, Nat.reduceMul, Nat.reducePow, Nat.reduceLT, Int.reduceBEq, Int.reduceBNe, Int.reduceAdd, Int.reduceSub, Int.reduceMul, Int.reduceGT, Int.reduceGE, decS, Int.reduceNe, Int.reduceEq, fillOk, fillAV]
      refine acK_rd (int_x B hB _ (suf_int hsi)) rfl (fun _ => rfl) (fun _ => rfl) rfl (fun _ => rfl) (fun _ => rfl) rfl ?_
      simp -implicitDefEqProofs (maxSteps := 500000) (disch := first | decide | omega) only [↓preS, ↓reduceIte, allS, Nat.reduceBEq, Nat.reduceAdd, Nat.reduceEqDiff, reduceIte, Int.reduceToNat, Int.reduceLE, Int.reduceLT, Nat.reduceLeDiff, Nat.reduceMul, Nat.reducePow, Nat.reduceLT, Int.reduceBEq, Int.reduceBNe, Int.reduceAdd, Int.reduceSub, Int.reduceMul, Int.reduceGT, Int.reduceGE, decS, Int.reduceNe, Int.reduceEq, fillOk, fillAV]
      refine acK_rd (vec_x B hB _ (suf_int (suf_int hsi))) rfl (fun _ => rfl) (fun _ => rfl) rfl (fun _ => rfl) (fun _ => rfl) rfl ?_
      simp -implicitDefEqProofs (maxSteps := 500000) (disch := first | decide | omega) only [↓preS, ↓reduceIte, allS, Nat.reduceBEq, Nat.reduceAdd, Nat.reduceEqDiff, reduceIte, Int.reduceToNat, Int.reduceLE, Int.reduceLT, Nat.reduceLeDiff, Nat.reduceMul, Nat.reducePow, Nat.reduceLT, Int.reduceBEq, Int.reduceBNe, Int.reduceAdd, Int.reduceSub, Int.reduceMul, Int.reduceGT, Int.reduceGE, decS, Int.reduceNe, Int.reduceEq, fillOk, fillAV]
      refine acK_rd (int_x B hB _ (suf_int (suf_int (suf_int (suf_int hsi))))) rfl (fun _ => rfl) (fun _ => rfl) rfl (fun _ => rfl) (fun _ => rfl) rfl ?_
      simp -implicitDefEqProofs (maxSteps := 500000) (disch := first | decide | omega) only [↓preS, ↓reduceIte, allS, Nat.reduceBEq, Nat.reduceAdd, Nat.reduceEqDiff, reduceIte, Int.reduceToNat, Int.reduceLE, Int.reduceLT, Nat.reduceLeDiff, Nat.reduceMul, Nat.reducePow, Nat.reduceLT, Int.reduceBEq, Int.reduceBNe, Int.reduceAdd, Int.reduceSub, Int.reduceMul, Int.reduceGT, Int.reduceGE, decS, Int.reduceNe, Int.reduceEq, fillOk, fillAV]
      refine acK_rd (int_x B hB _ (suf_int (suf_int (suf_int (suf_int (suf_int hsi)))))) rfl (fun _ => rfl) (fun _ => rfl) rfl (fun _ => rfl) (fun _ => rfl) rfl ?_
      simp -implicitDefEqProofs (maxSteps := 500000) (disch := first | decide | omega) only [↓preS, ↓reduceIte, allS, Nat.reduceBEq, Nat.reduceAdd, Nat.reduceEqDiff, reduceIte, Int.reduceToNat, Int.reduceLE, Int.reduceLT, Nat.reduceLeDiff, Nat.reduceMul, Nat.reducePow, Nat.reduceLT, Int.reduceBEq, Int.reduceBNe, Int.reduceAdd, Int.reduceSub, Int.reduceMul, Int.reduceGT, Int.reduceGE, decS, Int.reduceNe, Int.reduceEq, fillOk, fillAV]
      refine acK_rd (int_x B hB _ (suf_int (suf_int (suf_int (suf_int (suf_int (suf_int hsi))))))) rfl (fun _ => rfl) (fun _ => rfl) rfl (fun _ => rfl) (fun _ => rfl) rfl ?_
      simp -implicitDefEqProofs (maxSteps := 500000) (disch := first | decide | omega) only [↓preS, ↓reduceIte, allS, Nat.reduceBEq, Nat.reduceAdd, Nat.reduceEqDiff, reduceIte, Int.reduceToNat, Int.reduceLE, Int.reduceLT, Nat.reduceLeDiff, Nat.reduceMul, Nat.reducePow, Nat.reduceLT, Int.reduceBEq, Int.reduceBNe, Int.reduceAdd, Int.reduceSub, Int.reduceMul, Int.reduceGT, Int.reduceGE, decS, Int.reduceNe, Int.reduceEq, fillOk, fillAV, Z76]
      refine ⟨⟨by omega, by omega⟩, ?_⟩
      simp only [List.map_append, List.map_cons, List.map_nil] at fin
      exact fin _ _ _
    · have hin3 : (i : Int) < (n : Int) := by omega
      have hx := hh (.inr he)
      generalize asksN i s = q at hl hsi hx he ⊢
      obtain ⟨l, u, e⟩ := q
      simp only at hl hsi he ⊢
      simp -implicitDefEqProofs (maxSteps := 500000) (disch := first | decide | omega) only [↓preS, ↓reduceIte, allS, Nat.reduceBEq, Nat.reduceAdd, Nat.reduceEqDiff, reduceIte, Int.reduceToNat, Int.reduceLE, Int.reduceLT, Nat.reduceLeDiff, Nat.reduceMul, Nat.reducePow, Nat.reduceLT, Int.reduceBEq, Int.reduceBNe, Int.reduceAdd, Int.reduceSub, Int.reduceMul, Int.reduceGT, Int.reduceGE, decS, Int.reduceNe, Int.reduceEq, XS, XO, he]
      exact hx
  · have hx := hh (.inl (by omega))
    have hin3 : ¬ (i : Int) < (n : Int) := by omega
    simp -implicitDefEqProofs (maxSteps := 500000) (disch := first | decide | omega) only [↓preS, ↓reduceIte, allS, Nat.reduceBEq, Nat.reduceAdd, Nat.reduceEqDiff, reduceIte, Int.reduceToNat, Int.reduceLE, Int.reduceLT, Nat.reduceLeDiff, Nat.reduceMul, Nat.reducePow, Nat.reduceLT, Int.reduceBEq, Int.reduceBNe, Int.reduceAdd, Int.reduceSub, Int.reduceMul, Int.reduceGT, Int.reduceGE, decS, Int.reduceNe, Int.reduceEq]
    exact hx

theorem int_err {s : RS} (h : s.e ≠ 0) : intR s = (0, s) := by unfold intR; rw [if_neg h]
theorem text_err {s : RS} (h : s.e ≠ 0) : textR s = ([], s) := by unfold textR; rw [if_neg h]
theorem ints_err {s : RS} (h : s.e ≠ 0) : intsR s = ([], s) := by unfold intsR; rw [if_neg h]
theorem intsX_err {s : RS} (h : s.e ≠ 0) : intsX s = ([], s) := by unfold intsX; rw [if_neg h]
theorem ask_err {s : RS} (h : s.e ≠ 0) : (ask1 s).2 = s := by
  unfold ask1
  simp only [int_err h]
theorem asksN_err : ∀ (n : Nat) {s : RS}, s.e ≠ 0 → (asksN n s).2 = s
  | 0, s, h => rfl
  | n + 1, s, h => by
    have h2 : (ask1 s).2.e ≠ 0 := by rw [ask_err h]; exact h
    show (asksN n (ask1 s).2).2 = s
    rw [asksN_err n h2, ask_err h]
theorem asksN_add : ∀ (m n : Nat) (s : RS), (asksN (m + n) s).2 = (asksN n (asksN m s).2).2
  | m, 0, s => rfl
  | m, n + 1, s => by
    rw [show m + (n + 1) = (m + n) + 1 by omega, asksN_snoc, asksN_snoc, asksN_add m n s]
theorem asksN_stop {m n : Nat} (h : m ≤ n) {s : RS} (he : (asksN m s).2.e ≠ 0) : (asksN n s).2 = (asksN m s).2 := by
  obtain ⟨d, rfl⟩ : ∃ d, n = m + d := ⟨n - m, by omega⟩
  rw [asksN_add, asksN_err d he]

/-- The same error; where there is none, the same. -/
def Sim (a b : Inp × RS) : Prop := a.2.e = b.2.e ∧ (b.2.e = 0 → a.1 = b.1 ∧ a.2.b = b.2.b)

def par5 (k : Int) (s : RS) : Inp × RS :=
  ({ zInp k with id := (intR s).1, beat := (intR (intR s).2).1, asks := (asksR (intR (intR s).2).2).1, ids := (intsR (asksR (intR (intR s).2).2).2).1 }, (intsR (asksR (intR (intR s).2).2).2).2)

set_option maxRecDepth 20000 in
set_option maxHeartbeats 8000000 in
theorem master_x (B : List UInt8) (hB : B.length < 2 ^ 62) (k : Int) (s : RS) (hs : Suf B s) : ACall Try.prog 76 [.ref 0 0 0, .agg (inpZ k)] [XS B s] fun y H' => ∃ q : Inp × RS, y = INP q.1 ∧ H' = [XS B q.2] ∧ Suf B q.2 ∧ Sim q (par5 k s) := by
  have key : ACall Try.prog 76 [.ref 0 0 0, .agg (inpZ k)] [XS B s] fun y H' => ∃ q : Inp × RS, Wk3 y (INP q.1) ∧ (∃ G, H' = XS B q.2 :: G) ∧ Suf B q.2 ∧ Sim q (par5 k s) := by
    refine acallR_at isR76 (by simp) rfl ?_
    unfold cc76
    simp -implicitDefEqProofs (maxSteps := 500000) (disch := first | decide | omega) only [↓preS, ↓reduceIte, allS, Nat.reduceBEq, Nat.reduceAdd, Nat.reduceEqDiff, reduceIte, Int.reduceToNat, Int.reduceLE, Int.reduceLT, Nat.reduceLeDiff, Nat.reduceMul, Nat.reducePow, Nat.reduceLT, Int.reduceBEq, Int.reduceBNe, Int.reduceAdd, Int.reduceSub, Int.reduceMul, Int.reduceGT, Int.reduceGE, decS, Int.reduceNe, Int.reduceEq, inpZ]
    refine acK_rd (int_x B hB s hs) rfl (fun _ => rfl) (fun _ => rfl) rfl (fun _ => rfl) (fun _ => rfl) rfl ?_
    simp -implicitDefEqProofs (maxSteps := 500000) (disch := first | decide | omega) only [↓preS, ↓reduceIte, allS, Nat.reduceBEq, Nat.reduceAdd, Nat.reduceEqDiff, reduceIte, Int.reduceToNat, Int.reduceLE, Int.reduceLT, Nat.reduceLeDiff, Nat.reduceMul, Nat.reducePow, Nat.reduceLT, Int.reduceBEq, Int.reduceBNe, Int.reduceAdd, Int.reduceSub, Int.reduceMul, Int.reduceGT, Int.reduceGE, decS, Int.reduceNe, Int.reduceEq]
    refine acK_rd (int_x B hB _ (suf_int hs)) rfl (fun _ => rfl) (fun _ => rfl) rfl (fun _ => rfl) (fun _ => rfl) rfl ?_
    simp -implicitDefEqProofs (maxSteps := 500000) (disch := first | decide | omega) only [↓preS, ↓reduceIte, allS, Nat.reduceBEq, Nat.reduceAdd, Nat.reduceEqDiff, reduceIte, Int.reduceToNat, Int.reduceLE, Int.reduceLT, Nat.reduceLeDiff, Nat.reduceMul, Nat.reducePow, Nat.reduceLT, Int.reduceBEq, Int.reduceBNe, Int.reduceAdd, Int.reduceSub, Int.reduceMul, Int.reduceGT, Int.reduceGE, decS, Int.reduceNe, Int.reduceEq]
    refine acK_rd (int_x B hB _ (suf_int (suf_int hs))) rfl (fun _ => rfl) (fun _ => rfl) rfl (fun _ => rfl) (fun _ => rfl) rfl ?_
    have hs3 := suf_int (suf_int (suf_int hs))
    have ea : asksR (intR (intR s).2).2 = if (intR (intR (intR s).2).2).1 < 0 ∨ 20 < (intR (intR (intR s).2).2).1 then ([], failR (intR (intR (intR s).2).2).2 4) else asksN (intR (intR (intR s).2).2).1.toNat (intR (intR (intR s).2).2).2 := rfl
    unfold par5
    rw [ea]
    generalize (intR s).1 = a
    generalize (intR (intR s).2).1 = b
    generalize intR (intR (intR s).2).2 = q at hs3 ⊢
    obtain ⟨n, t⟩ := q
    simp only at hs3 ⊢
    by_cases hn : n < 0 ∨ 20 < n
    · rw [if_pos hn]
      have hf : (failR t 4).e ≠ 0 := failR_e (by decide)
      have bad : ∀ (ys : List AV) (G : List AO), WkL ys (inpC { zInp k with id := a, beat := b }) → ∃ q : Inp × RS, Wk3 (.agg ys) (INP q.1) ∧ (∃ G', XS B ⟨t.b, if t.e = 0 then 4 else t.e⟩ :: G = XS B q.2 :: G') ∧ Suf B q.2 ∧ Sim q ({ zInp k with id := a, beat := b, asks := [], ids := (intsR (failR t 4)).1 }, (intsR (failR t 4)).2) := by
        intro ys G hw
        refine ⟨({ zInp k with id := a, beat := b }, failR t 4), .inl (.inr ⟨_, _, rfl, rfl, hw⟩), ⟨G, rfl⟩, hs3, ?_⟩
        rw [ints_err hf]
        exact ⟨rfl, fun h => absurd h hf⟩
      by_cases h1 : n < 0
      · simp -implicitDefEqProofs (maxSteps := 500000) (disch := first | decide | omega) only [↓preS, ↓reduceIte, allS, Nat.reduceBEq, Nat.reduceAdd, Nat.reduceEqDiff, reduceIte, Int.reduceToNat, Int.reduceLE, Int.reduceLT, Nat.reduceLeDiff, Nat.reduceMul, Nat.reducePow, Nat.reduceLT, Int.reduceBEq, Int.reduceBNe, Int.reduceAdd, Int.reduceSub, Int.reduceMul, Int.reduceGT, Int.reduceGE, decS, Int.reduceNe, Int.reduceEq]
        refine acK_rd (fail_x B t 4) rfl (fun _ => rfl) (fun _ => rfl) rfl (fun _ => rfl) (fun _ => rfl) rfl ?_
        simp -implicitDefEqProofs (maxSteps := 500000) (disch := first | decide | omega) only [↓preS, ↓reduceIte, allS, Nat.reduceBEq, Nat.reduceAdd, Nat.reduceEqDiff, reduceIte, Int.reduceToNat, Int.reduceLE, Int.reduceLT, Nat.reduceLeDiff, Nat.reduceMul, Nat.reducePow, Nat.reduceLT, Int.reduceBEq, Int.reduceBNe, Int.reduceAdd, Int.reduceSub, Int.reduceMul, Int.reduceGT, Int.reduceGE, decS, Int.reduceNe, Int.reduceEq]
        exact bad _ _ (by simp [inpC, zInp, WkL, Wk1])
      · have h2 : 20 < n := by omega
        simp -implicitDefEqProofs (maxSteps := 500000) (disch := first | decide | omega) only [↓preS, ↓reduceIte, allS, Nat.reduceBEq, Nat.reduceAdd, Nat.reduceEqDiff, reduceIte, Int.reduceToNat, Int.reduceLE, Int.reduceLT, Nat.reduceLeDiff, Nat.reduceMul, Nat.reducePow, Nat.reduceLT, Int.reduceBEq, Int.reduceBNe, Int.reduceAdd, Int.reduceSub, Int.reduceMul, Int.reduceGT, Int.reduceGE, decS, Int.reduceNe, Int.reduceEq]
        refine acK_rd (fail_x B t 4) rfl (fun _ => rfl) (fun _ => rfl) rfl (fun _ => rfl) (fun _ => rfl) rfl ?_
        simp -implicitDefEqProofs (maxSteps := 500000) (disch := first | decide | omega) only [↓preS, ↓reduceIte, allS, Nat.reduceBEq, Nat.reduceAdd, Nat.reduceEqDiff, reduceIte, Int.reduceToNat, Int.reduceLE, Int.reduceLT, Nat.reduceLeDiff, Nat.reduceMul, Nat.reducePow, Nat.reduceLT, Int.reduceBEq, Int.reduceBNe, Int.reduceAdd, Int.reduceSub, Int.reduceMul, Int.reduceGT, Int.reduceGE, decS, Int.reduceNe, Int.reduceEq]
        exact bad _ _ (by simp [inpC, zInp, WkL, Wk1])
    · rw [if_neg hn]
      have h1 : ¬ n < 0 := by omega
      have h2 : ¬ 20 < n := by omega
      obtain ⟨m, rfl⟩ : ∃ m : Nat, n = (m : Int) := ⟨n.toNat, by omega⟩
      rw [Int.toNat_natCast]
      simp -implicitDefEqProofs (maxSteps := 500000) (disch := first | decide | omega) only [↓preS, ↓reduceIte, allS, Nat.reduceBEq, Nat.reduceAdd, Nat.reduceEqDiff, reduceIte, Int.reduceToNat, Int.reduceLE, Int.reduceLT, Nat.reduceLeDiff, Nat.reduceMul, Nat.reducePow, Nat.reduceLT, Int.reduceBEq, Int.reduceBNe, Int.reduceAdd, Int.reduceSub, Int.reduceMul, Int.reduceGT, Int.reduceGE, decS, Int.reduceNe, Int.reduceEq]
      refine loop76 B hB k a b m (by omega) t hs3 _ ?_
      intro j hj hjm
      have hsj := suf_asks j hs3
      have res : Sim ({ zInp k with id := a, beat := b, asks := (asksN j t).1, ids := (intsX (asksN j t).2).1 }, (intsX (asksN j t).2).2) ({ zInp k with id := a, beat := b, asks := (asksN m t).1, ids := (intsR (asksN m t).2).1 }, (intsR (asksN m t).2).2) := by
        rcases hjm with rfl | he
        · obtain ⟨g1, g2, g3⟩ := like_ints (a := (asksN j t).2) (b := (asksN j t).2) ⟨rfl, fun _ => rfl⟩
          exact ⟨g2.symm, fun h => ⟨by rw [g1], (g3 h).symm⟩⟩
        · rw [asksN_stop hj he, intsX_err he, ints_err he]
          exact ⟨rfl, fun h => absurd h he⟩
      generalize asksN m t = r0 at res ⊢
      generalize asksN j t = r1 at res hsj ⊢
      obtain ⟨l, u⟩ := r1
      simp only at hsj res ⊢
      simp -implicitDefEqProofs (maxSteps := 500000) (disch := first | decide | omega) only [↓preS, ↓reduceIte, allS, Nat.reduceBEq, Nat.reduceAdd, Nat.reduceEqDiff, reduceIte, Int.reduceToNat, Int.reduceLE, Int.reduceLT, Nat.reduceLeDiff, Nat.reduceMul, Nat.reducePow, Nat.reduceLT, Int.reduceBEq, Int.reduceBNe, Int.reduceAdd, Int.reduceSub, Int.reduceMul, Int.reduceGT, Int.reduceGE, decS, Int.reduceNe, Int.reduceEq]
      refine tidyK_frz 3 rfl ?_
      simp -implicitDefEqProofs (maxSteps := 500000) (disch := first | decide | omega) only [↓preS, ↓reduceIte, allS, Nat.reduceBEq, Nat.reduceAdd, Nat.reduceEqDiff, reduceIte, Int.reduceToNat, Int.reduceLE, Int.reduceLT, Nat.reduceLeDiff, Nat.reduceMul, Nat.reducePow, Nat.reduceLT, Int.reduceBEq, Int.reduceBNe, Int.reduceAdd, Int.reduceSub, Int.reduceMul, Int.reduceGT, Int.reduceGE, decS, Int.reduceNe, Int.reduceEq, AO.fz, Z76, inpZ, fz1_all, fz_XS]
      refine tidyK_done ?_
      simp -implicitDefEqProofs (maxSteps := 500000) (disch := first | decide | omega) only [↓preS, ↓reduceIte, allS, Nat.reduceBEq, Nat.reduceAdd, Nat.reduceEqDiff, reduceIte, Int.reduceToNat, Int.reduceLE, Int.reduceLT, Nat.reduceLeDiff, Nat.reduceMul, Nat.reducePow, Nat.reduceLT, Int.reduceBEq, Int.reduceBNe, Int.reduceAdd, Int.reduceSub, Int.reduceMul, Int.reduceGT, Int.reduceGE, decS, Int.reduceNe, Int.reduceEq]
      refine acK_obj ((ints_x B hB u hsj).to (PP := fun _ _ => False) fun _ _ h => h) rfl rfl rfl rfl rfl ?_ fun _ _ h => h.elim
      rintro y G ⟨rfl, rfl⟩
      simp -implicitDefEqProofs (maxSteps := 500000) (disch := first | decide | omega) only [↓preS, ↓reduceIte, allS, Nat.reduceBEq, Nat.reduceAdd, Nat.reduceEqDiff, reduceIte, Int.reduceToNat, Int.reduceLE, Int.reduceLT, Nat.reduceLeDiff, Nat.reduceMul, Nat.reducePow, Nat.reduceLT, Int.reduceBEq, Int.reduceBNe, Int.reduceAdd, Int.reduceSub, Int.reduceMul, Int.reduceGT, Int.reduceGE, decS, Int.reduceNe, Int.reduceEq, AV.ren, AV.renL, spl_one, AO.ren, XS, XO, ext, List.getElem?_nil, Option.getD_none, Nat.reduceSub]
      refine ⟨_, ?_, ⟨_, rfl⟩, suf_ints hsj, res⟩
      exact .inl (.inr ⟨_, _, rfl, rfl, by simp [inpC, zInp, WkL, Wk1]⟩)
  refine ACall.drop (ACall.weak key (Post' := fun y H' => ∃ q : Inp × RS, y = INP q.1 ∧ (∃ G, H' = XS B q.2 :: G) ∧ Suf B q.2 ∧ Sim q (par5 k s)) ?_) ?_
  · rintro y G ⟨q, h1, h2⟩
    exact ⟨_, h1, q, rfl, h2⟩
  · rintro y G ⟨q, rfl, ⟨G, rfl⟩, h2, h3⟩
    exact ⟨[XS B q.2], G, rfl, Nat.le_refl _, rfl, fun o ho => by rw [List.mem_singleton.1 ho]; rfl, q, rfl, rfl, h2, h3⟩

theorem sim_self (q : Inp × RS) : Sim q q := ⟨rfl, fun _ => ⟨rfl, rfl⟩⟩
def PostR (B : List UInt8) (r : Inp × RS) (y : AV) (H' : List AO) : Prop := ∃ q : Inp × RS, Wk3 y (INP q.1) ∧ (∃ G, H' = XS B q.2 :: G) ∧ Suf B q.2 ∧ Sim q r

set_option maxRecDepth 20000 in
set_option maxHeartbeats 8000000 in
theorem rest_x (B : List UInt8) (hB : B.length < 2 ^ 62) (k : Int) (s : RS) (hs : Suf B s) : ACall Try.prog 54 [.ref 0 0 0, .agg (inpZ k)] [XS B s] fun y H' => ∃ q : Inp × RS, y = INP q.1 ∧ H' = [XS B q.2] ∧ Suf B q.2 ∧ Sim q (parsB k s) := by
  have key : ACall Try.prog 54 [.ref 0 0 0, .agg (inpZ k)] [XS B s] (PostR B (parsB k s)) := by
    refine acallR_at isR54 (by simp) rfl ?_
    unfold cc54
    have kc : k = 1 ∨ k = 2 ∨ k = 3 ∨ k = 4 ∨ k = 5 ∨ k = 6 ∨ k = 7 ∨ k = 8 ∨ k = 9 ∨ k = 10 ∨ (k ≠ 1 ∧ k ≠ 2 ∧ k ≠ 3 ∧ k ≠ 4 ∧ k ≠ 5 ∧ k ≠ 6 ∧ k ≠ 7 ∧ k ≠ 8 ∧ k ≠ 9 ∧ k ≠ 10) := by omega
    rcases kc with rfl | rfl | rfl | rfl | rfl | rfl | rfl | rfl | rfl | rfl | ⟨n1, n2, n3, n4, n5, n6, n7, n8, n9, n10⟩
    · simp -implicitDefEqProofs (maxSteps := 500000) (disch := first | decide | omega) only [↓preS, ↓reduceIte, allS, Nat.reduceBEq, Nat.reduceAdd, Nat.reduceEqDiff, reduceIte, Int.reduceToNat, Int.reduceLE, Int.reduceLT, Nat.reduceLeDiff, Nat.reduceMul, Nat.reducePow, Nat.reduceLT, Int.reduceBEq, Int.reduceBNe, Int.reduceAdd, Int.reduceSub, Int.reduceMul, Int.reduceGT, Int.reduceGE, decS, Int.reduceNe, Int.reduceEq, inpZ]
      refine acK_rd (text_x B hB s hs) rfl (fun _ => rfl) (fun _ => rfl) rfl (fun _ => rfl) (fun _ => rfl) rfl ?_
      simp -implicitDefEqProofs (maxSteps := 500000) (disch := first | decide | omega) only [↓preS, ↓reduceIte, allS, Nat.reduceBEq, Nat.reduceAdd, Nat.reduceEqDiff, reduceIte, Int.reduceToNat, Int.reduceLE, Int.reduceLT, Nat.reduceLeDiff, Nat.reduceMul, Nat.reducePow, Nat.reduceLT, Int.reduceBEq, Int.reduceBNe, Int.reduceAdd, Int.reduceSub, Int.reduceMul, Int.reduceGT, Int.reduceGE, decS, Int.reduceNe, Int.reduceEq]
      exact ⟨_, .inl (.inr ⟨_, _, rfl, rfl, by simp [parsB, inpC, zInp, WkL, Wk1]⟩), ⟨_, rfl⟩, suf_text hs, sim_self (parsB 1 s)⟩
    · have h2 := suf_int hs
      have h3 := suf_int h2
      have h4 := suf_int h3
      have h5 := suf_int h4
      have h6 := suf_int h5
      simp -implicitDefEqProofs (maxSteps := 500000) (disch := first | decide | omega) only [↓preS, ↓reduceIte, allS, Nat.reduceBEq, Nat.reduceAdd, Nat.reduceEqDiff, reduceIte, Int.reduceToNat, Int.reduceLE, Int.reduceLT, Nat.reduceLeDiff, Nat.reduceMul, Nat.reducePow, Nat.reduceLT, Int.reduceBEq, Int.reduceBNe, Int.reduceAdd, Int.reduceSub, Int.reduceMul, Int.reduceGT, Int.reduceGE, decS, Int.reduceNe, Int.reduceEq, inpZ]
      refine acK_rd (int_x B hB s hs) rfl (fun _ => rfl) (fun _ => rfl) rfl (fun _ => rfl) (fun _ => rfl) rfl ?_
      simp -implicitDefEqProofs (maxSteps := 500000) (disch := first | decide | omega) only [↓preS, ↓reduceIte, allS, Nat.reduceBEq, Nat.reduceAdd, Nat.reduceEqDiff, reduceIte, Int.reduceToNat, Int.reduceLE, Int.reduceLT, Nat.reduceLeDiff, Nat.reduceMul, Nat.reducePow, Nat.reduceLT, Int.reduceBEq, Int.reduceBNe, Int.reduceAdd, Int.reduceSub, Int.reduceMul, Int.reduceGT, Int.reduceGE, decS, Int.reduceNe, Int.reduceEq]
      refine acK_rd (int_x B hB _ h2) rfl (fun _ => rfl) (fun _ => rfl) rfl (fun _ => rfl) (fun _ => rfl) rfl ?_
      simp -implicitDefEqProofs (maxSteps := 500000) (disch := first | decide | omega) only [↓preS, ↓reduceIte, allS, Nat.reduceBEq, Nat.reduceAdd, Nat.reduceEqDiff, reduceIte, Int.reduceToNat, Int.reduceLE, Int.reduceLT, Nat.reduceLeDiff, Nat.reduceMul, Nat.reducePow, Nat.reduceLT, Int.reduceBEq, Int.reduceBNe, Int.reduceAdd, Int.reduceSub, Int.reduceMul, Int.reduceGT, Int.reduceGE, decS, Int.reduceNe, Int.reduceEq]
      refine acK_rd (int_x B hB _ h3) rfl (fun _ => rfl) (fun _ => rfl) rfl (fun _ => rfl) (fun _ => rfl) rfl ?_
      simp -implicitDefEqProofs (maxSteps := 500000) (disch := first | decide | omega) only [↓preS, ↓reduceIte, allS, Nat.reduceBEq, Nat.reduceAdd, Nat.reduceEqDiff, reduceIte, Int.reduceToNat, Int.reduceLE, Int.reduceLT, Nat.reduceLeDiff, Nat.reduceMul, Nat.reducePow, Nat.reduceLT, Int.reduceBEq, Int.reduceBNe, Int.reduceAdd, Int.reduceSub, Int.reduceMul, Int.reduceGT, Int.reduceGE, decS, Int.reduceNe, Int.reduceEq]
      refine acK_rd (vec_x B hB _ h4) rfl (fun _ => rfl) (fun _ => rfl) rfl (fun _ => rfl) (fun _ => rfl) rfl ?_
      simp -implicitDefEqProofs (maxSteps := 500000) (disch := first | decide | omega) only [↓preS, ↓reduceIte, allS, Nat.reduceBEq, Nat.reduceAdd, Nat.reduceEqDiff, reduceIte, Int.reduceToNat, Int.reduceLE, Int.reduceLT, Nat.reduceLeDiff, Nat.reduceMul, Nat.reducePow, Nat.reduceLT, Int.reduceBEq, Int.reduceBNe, Int.reduceAdd, Int.reduceSub, Int.reduceMul, Int.reduceGT, Int.reduceGE, decS, Int.reduceNe, Int.reduceEq]
      exact ⟨_, .inl (.inr ⟨_, _, rfl, rfl, by simp [parsB, inpC, zInp, WkL, Wk1]⟩), ⟨_, rfl⟩, h6, sim_self (parsB 2 s)⟩
    · have h2 := suf_int hs
      have h3 := suf_int h2
      simp -implicitDefEqProofs (maxSteps := 500000) (disch := first | decide | omega) only [↓preS, ↓reduceIte, allS, Nat.reduceBEq, Nat.reduceAdd, Nat.reduceEqDiff, reduceIte, Int.reduceToNat, Int.reduceLE, Int.reduceLT, Nat.reduceLeDiff, Nat.reduceMul, Nat.reducePow, Nat.reduceLT, Int.reduceBEq, Int.reduceBNe, Int.reduceAdd, Int.reduceSub, Int.reduceMul, Int.reduceGT, Int.reduceGE, decS, Int.reduceNe, Int.reduceEq, inpZ]
      refine acK_rd (int_x B hB s hs) rfl (fun _ => rfl) (fun _ => rfl) rfl (fun _ => rfl) (fun _ => rfl) rfl ?_
      simp -implicitDefEqProofs (maxSteps := 500000) (disch := first | decide | omega) only [↓preS, ↓reduceIte, allS, Nat.reduceBEq, Nat.reduceAdd, Nat.reduceEqDiff, reduceIte, Int.reduceToNat, Int.reduceLE, Int.reduceLT, Nat.reduceLeDiff, Nat.reduceMul, Nat.reducePow, Nat.reduceLT, Int.reduceBEq, Int.reduceBNe, Int.reduceAdd, Int.reduceSub, Int.reduceMul, Int.reduceGT, Int.reduceGE, decS, Int.reduceNe, Int.reduceEq]
      refine acK_rd (int_x B hB _ h2) rfl (fun _ => rfl) (fun _ => rfl) rfl (fun _ => rfl) (fun _ => rfl) rfl ?_
      simp -implicitDefEqProofs (maxSteps := 500000) (disch := first | decide | omega) only [↓preS, ↓reduceIte, allS, Nat.reduceBEq, Nat.reduceAdd, Nat.reduceEqDiff, reduceIte, Int.reduceToNat, Int.reduceLE, Int.reduceLT, Nat.reduceLeDiff, Nat.reduceMul, Nat.reducePow, Nat.reduceLT, Int.reduceBEq, Int.reduceBNe, Int.reduceAdd, Int.reduceSub, Int.reduceMul, Int.reduceGT, Int.reduceGE, decS, Int.reduceNe, Int.reduceEq]
      refine acK_obj ((ints_x B hB _ h3).to (PP := fun _ _ => False) fun _ _ h => h) rfl rfl rfl rfl rfl ?_ fun _ _ h => h.elim
      rintro y G ⟨rfl, rfl⟩
      simp -implicitDefEqProofs (maxSteps := 500000) (disch := first | decide | omega) only [↓preS, ↓reduceIte, allS, Nat.reduceBEq, Nat.reduceAdd, Nat.reduceEqDiff, reduceIte, Int.reduceToNat, Int.reduceLE, Int.reduceLT, Nat.reduceLeDiff, Nat.reduceMul, Nat.reducePow, Nat.reduceLT, Int.reduceBEq, Int.reduceBNe, Int.reduceAdd, Int.reduceSub, Int.reduceMul, Int.reduceGT, Int.reduceGE, decS, Int.reduceNe, Int.reduceEq, AV.ren, AV.renL, spl_one, AO.ren, XS, XO, ext, List.getElem?_nil, Option.getD_none, Nat.reduceSub]
      refine ⟨({ zInp 3 with id := (intR s).1, beat := (intR (intR s).2).1, ids := (intsX (intR (intR s).2).2).1 }, (intsX (intR (intR s).2).2).2), .inl (.inr ⟨_, _, rfl, rfl, by simp [inpC, zInp, WkL, Wk1]⟩), ⟨_, rfl⟩, suf_ints h3, ?_⟩
      obtain ⟨g1, g2, g3⟩ := like_ints (a := (intR (intR s).2).2) (b := (intR (intR s).2).2) ⟨rfl, fun _ => rfl⟩
      exact ⟨g2.symm, fun h => ⟨by show _ = ({ zInp 3 with id := (intR s).1, beat := (intR (intR s).2).1, ids := (intsR (intR (intR s).2).2).1 } : Inp); rw [g1], (g3 h).symm⟩⟩
    · have h2 := suf_int hs
      have h3 := suf_text h2
      have h4 := suf_int h3
      have h5 := suf_int h4
      have h6 := suf_int h5
      have h7 := suf_int h6
      simp -implicitDefEqProofs (maxSteps := 500000) (disch := first | decide | omega) only [↓preS, ↓reduceIte, allS, Nat.reduceBEq, Nat.reduceAdd, Nat.reduceEqDiff, reduceIte, Int.reduceToNat, Int.reduceLE, Int.reduceLT, Nat.reduceLeDiff, Nat.reduceMul, Nat.reducePow, Nat.reduceLT, Int.reduceBEq, Int.reduceBNe, Int.reduceAdd, Int.reduceSub, Int.reduceMul, Int.reduceGT, Int.reduceGE, decS, Int.reduceNe, Int.reduceEq, inpZ]
      refine acK_rd (int_x B hB s hs) rfl (fun _ => rfl) (fun _ => rfl) rfl (fun _ => rfl) (fun _ => rfl) rfl ?_
      simp -implicitDefEqProofs (maxSteps := 500000) (disch := first | decide | omega) only [↓preS, ↓reduceIte, allS, Nat.reduceBEq, Nat.reduceAdd, Nat.reduceEqDiff, reduceIte, Int.reduceToNat, Int.reduceLE, Int.reduceLT, Nat.reduceLeDiff, Nat.reduceMul, Nat.reducePow, Nat.reduceLT, Int.reduceBEq, Int.reduceBNe, Int.reduceAdd, Int.reduceSub, Int.reduceMul, Int.reduceGT, Int.reduceGE, decS, Int.reduceNe, Int.reduceEq]
      refine acK_rd (text_x B hB _ h2) rfl (fun _ => rfl) (fun _ => rfl) rfl (fun _ => rfl) (fun _ => rfl) rfl ?_
      simp -implicitDefEqProofs (maxSteps := 500000) (disch := first | decide | omega) only [↓preS, ↓reduceIte, allS, Nat.reduceBEq, Nat.reduceAdd, Nat.reduceEqDiff, reduceIte, Int.reduceToNat, Int.reduceLE, Int.reduceLT, Nat.reduceLeDiff, Nat.reduceMul, Nat.reducePow, Nat.reduceLT, Int.reduceBEq, Int.reduceBNe, Int.reduceAdd, Int.reduceSub, Int.reduceMul, Int.reduceGT, Int.reduceGE, decS, Int.reduceNe, Int.reduceEq]
      refine acK_rd (int_x B hB _ h3) rfl (fun _ => rfl) (fun _ => rfl) rfl (fun _ => rfl) (fun _ => rfl) rfl ?_
      simp -implicitDefEqProofs (maxSteps := 500000) (disch := first | decide | omega) only [↓preS, ↓reduceIte, allS, Nat.reduceBEq, Nat.reduceAdd, Nat.reduceEqDiff, reduceIte, Int.reduceToNat, Int.reduceLE, Int.reduceLT, Nat.reduceLeDiff, Nat.reduceMul, Nat.reducePow, Nat.reduceLT, Int.reduceBEq, Int.reduceBNe, Int.reduceAdd, Int.reduceSub, Int.reduceMul, Int.reduceGT, Int.reduceGE, decS, Int.reduceNe, Int.reduceEq]
      refine acK_rd (int_x B hB _ h4) rfl (fun _ => rfl) (fun _ => rfl) rfl (fun _ => rfl) (fun _ => rfl) rfl ?_
      simp -implicitDefEqProofs (maxSteps := 500000) (disch := first | decide | omega) only [↓preS, ↓reduceIte, allS, Nat.reduceBEq, Nat.reduceAdd, Nat.reduceEqDiff, reduceIte, Int.reduceToNat, Int.reduceLE, Int.reduceLT, Nat.reduceLeDiff, Nat.reduceMul, Nat.reducePow, Nat.reduceLT, Int.reduceBEq, Int.reduceBNe, Int.reduceAdd, Int.reduceSub, Int.reduceMul, Int.reduceGT, Int.reduceGE, decS, Int.reduceNe, Int.reduceEq]
      refine acK_rd (vec_x B hB _ h5) rfl (fun _ => rfl) (fun _ => rfl) rfl (fun _ => rfl) (fun _ => rfl) rfl ?_
      simp -implicitDefEqProofs (maxSteps := 500000) (disch := first | decide | omega) only [↓preS, ↓reduceIte, allS, Nat.reduceBEq, Nat.reduceAdd, Nat.reduceEqDiff, reduceIte, Int.reduceToNat, Int.reduceLE, Int.reduceLT, Nat.reduceLeDiff, Nat.reduceMul, Nat.reducePow, Nat.reduceLT, Int.reduceBEq, Int.reduceBNe, Int.reduceAdd, Int.reduceSub, Int.reduceMul, Int.reduceGT, Int.reduceGE, decS, Int.reduceNe, Int.reduceEq]
      exact ⟨_, .inl (.inr ⟨_, _, rfl, rfl, by simp [parsB, inpC, zInp, WkL, Wk1]⟩), ⟨_, rfl⟩, h7, sim_self (parsB 4 s)⟩
    · simp -implicitDefEqProofs (maxSteps := 500000) (disch := first | decide | omega) only [↓preS, ↓reduceIte, allS, Nat.reduceBEq, Nat.reduceAdd, Nat.reduceEqDiff, reduceIte, Int.reduceToNat, Int.reduceLE, Int.reduceLT, Nat.reduceLeDiff, Nat.reduceMul, Nat.reducePow, Nat.reduceLT, Int.reduceBEq, Int.reduceBNe, Int.reduceAdd, Int.reduceSub, Int.reduceMul, Int.reduceGT, Int.reduceGE, decS, Int.reduceNe, Int.reduceEq, inpZ]
      refine acK_obj ((master_x B hB 5 s hs).to (PP := fun _ _ => False) fun _ _ h => h) rfl rfl rfl rfl rfl ?_ fun _ _ h => h.elim
      rintro y G ⟨q, rfl, rfl, g1, g2⟩
      have e1 : ∀ ρ, (INP q.1).ren ρ = INP q.1 := fun _ => rfl
      have e2 : ∀ ρ, (XS B q.2).ren ρ = XS B q.2 := fun _ => rfl
      simp -implicitDefEqProofs (maxSteps := 500000) (disch := first | decide | omega) only [↓preS, ↓reduceIte, allS, Nat.reduceBEq, Nat.reduceAdd, Nat.reduceEqDiff, reduceIte, Int.reduceToNat, Int.reduceLE, Int.reduceLT, Nat.reduceLeDiff, Nat.reduceMul, Nat.reducePow, Nat.reduceLT, Int.reduceBEq, Int.reduceBNe, Int.reduceAdd, Int.reduceSub, Int.reduceMul, Int.reduceGT, Int.reduceGE, decS, Int.reduceNe, Int.reduceEq, e1, e2, spl_one, inpS, List.append_nil]
      exact ⟨q, .inl (.inl (.inl rfl)), ⟨_, rfl⟩, g1, g2⟩
    · simp -implicitDefEqProofs (maxSteps := 500000) (disch := first | decide | omega) only [↓preS, ↓reduceIte, allS, Nat.reduceBEq, Nat.reduceAdd, Nat.reduceEqDiff, reduceIte, Int.reduceToNat, Int.reduceLE, Int.reduceLT, Nat.reduceLeDiff, Nat.reduceMul, Nat.reducePow, Nat.reduceLT, Int.reduceBEq, Int.reduceBNe, Int.reduceAdd, Int.reduceSub, Int.reduceMul, Int.reduceGT, Int.reduceGE, decS, Int.reduceNe, Int.reduceEq, inpZ]
      refine acK_rd (int_x B hB s hs) rfl (fun _ => rfl) (fun _ => rfl) rfl (fun _ => rfl) (fun _ => rfl) rfl ?_
      simp -implicitDefEqProofs (maxSteps := 500000) (disch := first | decide | omega) only [↓preS, ↓reduceIte, allS, Nat.reduceBEq, Nat.reduceAdd, Nat.reduceEqDiff, reduceIte, Int.reduceToNat, Int.reduceLE, Int.reduceLT, Nat.reduceLeDiff, Nat.reduceMul, Nat.reducePow, Nat.reduceLT, Int.reduceBEq, Int.reduceBNe, Int.reduceAdd, Int.reduceSub, Int.reduceMul, Int.reduceGT, Int.reduceGE, decS, Int.reduceNe, Int.reduceEq]
      exact ⟨_, .inl (.inr ⟨_, _, rfl, rfl, by simp [parsB, inpC, zInp, WkL, Wk1]⟩), ⟨_, rfl⟩, suf_int hs, sim_self (parsB 6 s)⟩
    · simp -implicitDefEqProofs (maxSteps := 500000) (disch := first | decide | omega) only [↓preS, ↓reduceIte, allS, Nat.reduceBEq, Nat.reduceAdd, Nat.reduceEqDiff, reduceIte, Int.reduceToNat, Int.reduceLE, Int.reduceLT, Nat.reduceLeDiff, Nat.reduceMul, Nat.reducePow, Nat.reduceLT, Int.reduceBEq, Int.reduceBNe, Int.reduceAdd, Int.reduceSub, Int.reduceMul, Int.reduceGT, Int.reduceGE, decS, Int.reduceNe, Int.reduceEq, inpZ]
      refine acK_rd (int_x B hB s hs) rfl (fun _ => rfl) (fun _ => rfl) rfl (fun _ => rfl) (fun _ => rfl) rfl ?_
      simp -implicitDefEqProofs (maxSteps := 500000) (disch := first | decide | omega) only [↓preS, ↓reduceIte, allS, Nat.reduceBEq, Nat.reduceAdd, Nat.reduceEqDiff, reduceIte, Int.reduceToNat, Int.reduceLE, Int.reduceLT, Nat.reduceLeDiff, Nat.reduceMul, Nat.reducePow, Nat.reduceLT, Int.reduceBEq, Int.reduceBNe, Int.reduceAdd, Int.reduceSub, Int.reduceMul, Int.reduceGT, Int.reduceGE, decS, Int.reduceNe, Int.reduceEq]
      exact ⟨_, .inl (.inr ⟨_, _, rfl, rfl, by simp [parsB, inpC, zInp, WkL, Wk1]⟩), ⟨_, rfl⟩, suf_int hs, sim_self (parsB 7 s)⟩
    · simp -implicitDefEqProofs (maxSteps := 500000) (disch := first | decide | omega) only [↓preS, ↓reduceIte, allS, Nat.reduceBEq, Nat.reduceAdd, Nat.reduceEqDiff, reduceIte, Int.reduceToNat, Int.reduceLE, Int.reduceLT, Nat.reduceLeDiff, Nat.reduceMul, Nat.reducePow, Nat.reduceLT, Int.reduceBEq, Int.reduceBNe, Int.reduceAdd, Int.reduceSub, Int.reduceMul, Int.reduceGT, Int.reduceGE, decS, Int.reduceNe, Int.reduceEq, inpZ]
      refine acK_rd (int_x B hB s hs) rfl (fun _ => rfl) (fun _ => rfl) rfl (fun _ => rfl) (fun _ => rfl) rfl ?_
      simp -implicitDefEqProofs (maxSteps := 500000) (disch := first | decide | omega) only [↓preS, ↓reduceIte, allS, Nat.reduceBEq, Nat.reduceAdd, Nat.reduceEqDiff, reduceIte, Int.reduceToNat, Int.reduceLE, Int.reduceLT, Nat.reduceLeDiff, Nat.reduceMul, Nat.reducePow, Nat.reduceLT, Int.reduceBEq, Int.reduceBNe, Int.reduceAdd, Int.reduceSub, Int.reduceMul, Int.reduceGT, Int.reduceGE, decS, Int.reduceNe, Int.reduceEq]
      exact ⟨_, .inl (.inr ⟨_, _, rfl, rfl, by simp [parsB, inpC, zInp, WkL, Wk1]⟩), ⟨_, rfl⟩, suf_int hs, sim_self (parsB 8 s)⟩
    · have h2 := suf_int hs
      have h3 := suf_int h2
      have h4 := suf_int h3
      have h5 := suf_int h4
      have h6 := suf_int h5
      have h7 := suf_int h6
      have h8 := suf_int h7
      simp -implicitDefEqProofs (maxSteps := 500000) (disch := first | decide | omega) only [↓preS, ↓reduceIte, allS, Nat.reduceBEq, Nat.reduceAdd, Nat.reduceEqDiff, reduceIte, Int.reduceToNat, Int.reduceLE, Int.reduceLT, Nat.reduceLeDiff, Nat.reduceMul, Nat.reducePow, Nat.reduceLT, Int.reduceBEq, Int.reduceBNe, Int.reduceAdd, Int.reduceSub, Int.reduceMul, Int.reduceGT, Int.reduceGE, decS, Int.reduceNe, Int.reduceEq, inpZ]
      refine acK_rd (int_x B hB s hs) rfl (fun _ => rfl) (fun _ => rfl) rfl (fun _ => rfl) (fun _ => rfl) rfl ?_
      simp -implicitDefEqProofs (maxSteps := 500000) (disch := first | decide | omega) only [↓preS, ↓reduceIte, allS, Nat.reduceBEq, Nat.reduceAdd, Nat.reduceEqDiff, reduceIte, Int.reduceToNat, Int.reduceLE, Int.reduceLT, Nat.reduceLeDiff, Nat.reduceMul, Nat.reducePow, Nat.reduceLT, Int.reduceBEq, Int.reduceBNe, Int.reduceAdd, Int.reduceSub, Int.reduceMul, Int.reduceGT, Int.reduceGE, decS, Int.reduceNe, Int.reduceEq]
      refine acK_rd (int_x B hB _ h2) rfl (fun _ => rfl) (fun _ => rfl) rfl (fun _ => rfl) (fun _ => rfl) rfl ?_
      simp -implicitDefEqProofs (maxSteps := 500000) (disch := first | decide | omega) only [↓preS, ↓reduceIte, allS, Nat.reduceBEq, Nat.reduceAdd, Nat.reduceEqDiff, reduceIte, Int.reduceToNat, Int.reduceLE, Int.reduceLT, Nat.reduceLeDiff, Nat.reduceMul, Nat.reducePow, Nat.reduceLT, Int.reduceBEq, Int.reduceBNe, Int.reduceAdd, Int.reduceSub, Int.reduceMul, Int.reduceGT, Int.reduceGE, decS, Int.reduceNe, Int.reduceEq]
      refine acK_rd (int_x B hB _ h3) rfl (fun _ => rfl) (fun _ => rfl) rfl (fun _ => rfl) (fun _ => rfl) rfl ?_
      simp -implicitDefEqProofs (maxSteps := 500000) (disch := first | decide | omega) only [↓preS, ↓reduceIte, allS, Nat.reduceBEq, Nat.reduceAdd, Nat.reduceEqDiff, reduceIte, Int.reduceToNat, Int.reduceLE, Int.reduceLT, Nat.reduceLeDiff, Nat.reduceMul, Nat.reducePow, Nat.reduceLT, Int.reduceBEq, Int.reduceBNe, Int.reduceAdd, Int.reduceSub, Int.reduceMul, Int.reduceGT, Int.reduceGE, decS, Int.reduceNe, Int.reduceEq]
      refine acK_rd (int_x B hB _ h4) rfl (fun _ => rfl) (fun _ => rfl) rfl (fun _ => rfl) (fun _ => rfl) rfl ?_
      simp -implicitDefEqProofs (maxSteps := 500000) (disch := first | decide | omega) only [↓preS, ↓reduceIte, allS, Nat.reduceBEq, Nat.reduceAdd, Nat.reduceEqDiff, reduceIte, Int.reduceToNat, Int.reduceLE, Int.reduceLT, Nat.reduceLeDiff, Nat.reduceMul, Nat.reducePow, Nat.reduceLT, Int.reduceBEq, Int.reduceBNe, Int.reduceAdd, Int.reduceSub, Int.reduceMul, Int.reduceGT, Int.reduceGE, decS, Int.reduceNe, Int.reduceEq]
      refine acK_rd (vec_x B hB _ h5) rfl (fun _ => rfl) (fun _ => rfl) rfl (fun _ => rfl) (fun _ => rfl) rfl ?_
      simp -implicitDefEqProofs (maxSteps := 500000) (disch := first | decide | omega) only [↓preS, ↓reduceIte, allS, Nat.reduceBEq, Nat.reduceAdd, Nat.reduceEqDiff, reduceIte, Int.reduceToNat, Int.reduceLE, Int.reduceLT, Nat.reduceLeDiff, Nat.reduceMul, Nat.reducePow, Nat.reduceLT, Int.reduceBEq, Int.reduceBNe, Int.reduceAdd, Int.reduceSub, Int.reduceMul, Int.reduceGT, Int.reduceGE, decS, Int.reduceNe, Int.reduceEq]
      refine acK_rd (int_x B hB _ h7) rfl (fun _ => rfl) (fun _ => rfl) rfl (fun _ => rfl) (fun _ => rfl) rfl ?_
      simp -implicitDefEqProofs (maxSteps := 500000) (disch := first | decide | omega) only [↓preS, ↓reduceIte, allS, Nat.reduceBEq, Nat.reduceAdd, Nat.reduceEqDiff, reduceIte, Int.reduceToNat, Int.reduceLE, Int.reduceLT, Nat.reduceLeDiff, Nat.reduceMul, Nat.reducePow, Nat.reduceLT, Int.reduceBEq, Int.reduceBNe, Int.reduceAdd, Int.reduceSub, Int.reduceMul, Int.reduceGT, Int.reduceGE, decS, Int.reduceNe, Int.reduceEq]
      exact ⟨_, .inl (.inr ⟨_, _, rfl, rfl, by simp [parsB, inpC, zInp, WkL, Wk1]⟩), ⟨_, rfl⟩, h8, sim_self (parsB 9 s)⟩
    · simp -implicitDefEqProofs (maxSteps := 500000) (disch := first | decide | omega) only [↓preS, ↓reduceIte, allS, Nat.reduceBEq, Nat.reduceAdd, Nat.reduceEqDiff, reduceIte, Int.reduceToNat, Int.reduceLE, Int.reduceLT, Nat.reduceLeDiff, Nat.reduceMul, Nat.reducePow, Nat.reduceLT, Int.reduceBEq, Int.reduceBNe, Int.reduceAdd, Int.reduceSub, Int.reduceMul, Int.reduceGT, Int.reduceGE, decS, Int.reduceNe, Int.reduceEq, inpZ]
      refine acK_rd (int_x B hB s hs) rfl (fun _ => rfl) (fun _ => rfl) rfl (fun _ => rfl) (fun _ => rfl) rfl ?_
      simp -implicitDefEqProofs (maxSteps := 500000) (disch := first | decide | omega) only [↓preS, ↓reduceIte, allS, Nat.reduceBEq, Nat.reduceAdd, Nat.reduceEqDiff, reduceIte, Int.reduceToNat, Int.reduceLE, Int.reduceLT, Nat.reduceLeDiff, Nat.reduceMul, Nat.reducePow, Nat.reduceLT, Int.reduceBEq, Int.reduceBNe, Int.reduceAdd, Int.reduceSub, Int.reduceMul, Int.reduceGT, Int.reduceGE, decS, Int.reduceNe, Int.reduceEq]
      exact ⟨_, .inl (.inr ⟨_, _, rfl, rfl, by simp [parsB, inpC, zInp, WkL, Wk1]⟩), ⟨_, rfl⟩, suf_int hs, sim_self (parsB 10 s)⟩
    · have e0 : parsB k s = (zInp k, s) := by
        unfold parsB
        rw [if_neg n1, if_neg n2, if_neg n3, if_neg n4, if_neg n5, if_neg (by omega), if_neg n8, if_neg n9]
      rw [e0]
      simp -implicitDefEqProofs (maxSteps := 500000) (disch := first | decide | omega) only [↓preS, ↓reduceIte, allS, Nat.reduceBEq, Nat.reduceAdd, Nat.reduceEqDiff, reduceIte, Int.reduceToNat, Int.reduceLE, Int.reduceLT, Nat.reduceLeDiff, Nat.reduceMul, Nat.reducePow, Nat.reduceLT, Int.reduceBEq, Int.reduceBNe, Int.reduceAdd, Int.reduceSub, Int.reduceMul, Int.reduceGT, Int.reduceGE, decS, Int.reduceNe, Int.reduceEq, inpZ]
      exact ⟨(zInp k, s), .inl (.inr ⟨_, _, rfl, rfl, by simp [inpC, zInp, WkL, Wk1]⟩), ⟨_, rfl⟩, hs, sim_self (zInp k, s)⟩
  refine ACall.drop (ACall.weak key (Post' := fun y H' => ∃ q : Inp × RS, y = INP q.1 ∧ (∃ G, H' = XS B q.2 :: G) ∧ Suf B q.2 ∧ Sim q (parsB k s)) ?_) ?_
  · rintro y G ⟨q, h1, h2⟩
    exact ⟨_, h1, q, rfl, h2⟩
  · rintro y G ⟨q, rfl, ⟨G, rfl⟩, h2, h3⟩
    exact ⟨[XS B q.2], G, rfl, Nat.le_refl _, rfl, fun o ho => by rw [List.mem_singleton.1 ho]; rfl, q, rfl, rfl, h2, h3⟩
end Go.Proofs.Ytgpipheibnlkhaa
