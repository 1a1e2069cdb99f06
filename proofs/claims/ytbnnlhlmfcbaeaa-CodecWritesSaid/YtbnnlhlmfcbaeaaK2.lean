/- What functions of the program compute. No condition. -/
import Derived.Test.YtbnnlhlmfcbaeaaK1
set_option linter.unusedSimpArgs false
set_option linter.unusedVariables false
namespace Go.Proofs.Ytbnnlhlmfcbaeaa
open Go Go.Ab
theorem nx_any (y : AV) {P : Program} {d : Bool} {t : Nat} {l : List COper} {r : Regs} {L : St → Prop} {Lp : AV → St → Prop} {H : List AO} : nxt P d t l r L Lp y H = opsK P d l ⟨(t, y) :: r, H⟩ L Lp := rfl
theorem acK_wrote {f : FuncId} {a : AV} {l q w : List UInt8} {i : Nat} {H : List AO} {K Kp : AV → List AO → Prop} (h : ACall Try.prog f [.own 0 1 0 l.length, a] [.arr 1 ((l ++ q).map U8)] fun y G => Wrote l w y G)
    (ha : ∀ ρ, a.ren ρ = a) (hb : a.bel 1 = true) (hi : H[i]? = some (.arr 1 ((l ++ q).map U8)))
    (hk : ∀ y G q2, G[i]? = some (.arr 1 ((l ++ q2).map U8)) → rdS G 1 y = some ((l ++ w).map U8) → K y G) : acK Try.prog f [.own i 1 0 l.length, a] H K Kp := by
  have hlt : i < H.length := (List.getElem?_eq_some_iff.1 hi).1
  have c := h.frame (H := H) [i] rfl (by simp) (by simpa using hlt) (fun k o hk => by
    match k, hk with
    | 0, hk => simp only [List.getElem?_cons_zero, Option.some.injEq] at hk; subst hk; exact ⟨by simpa [AO.ren] using hi, by simp [AO.bel]⟩
    | k + 1, hk => simp at hk) (by simp [AV.belL, AV.bel, hb])
  have e : AV.renL (fun k => [i].getD k 0) [.own 0 1 0 l.length, a] = [.own i 1 0 l.length, a] := by simp [AV.renL, AV.ren, ha]
  rw [e] at c
  refine c.to ?_
  rintro y G ⟨y0, Hr, hw, rfl, rfl⟩
  rcases hw with ⟨rfl, rfl⟩ | ⟨p, rfl, rfl⟩
  · refine hk _ _ w ?_ ?_
    · simp [spl, setAll, AO.ren, hlt]
    · have e2 : List.take (l ++ w).length ((l ++ w).map U8) = (l ++ w).map U8 := List.take_of_length_le (by simp)
      generalize l ++ w = z at e2
      simp [spl, setAll, AO.ren, hlt, AV.ren, ext, rdS, e2]
  · refine hk _ _ p ?_ ?_
    · have e3 : ∀ o z : AO, (H.set i o ++ [z])[i]? = some o := fun o z => by
        rw [List.getElem?_append_left (by simpa using hlt), List.getElem?_set_self hlt]
      generalize l ++ p = z
      simp [spl, setAll, AO.ren, e3]
    · have e2 : List.take (l ++ w).length ((l ++ w).map U8) = (l ++ w).map U8 := List.take_of_length_le (by simp)
      generalize l ++ w = z at e2
      simp [spl, setAll, AO.ren, hlt, AV.ren, ext, rdS, e2]
set_option maxRecDepth 20000 in
set_option maxHeartbeats 8000000 in
theorem writes_law (b : List UInt8) (hb : b.length < 2 ^ 63) (n : Int) (s : List UInt8) (hs : s.length < 2 ^ 63) (l : List Int) (hl : l.length < 2 ^ 63) : ACall Try.prog 3 [.sl false 1 (b.map U8), .int .i64 n, .str s, .sl false 1 (l.map I64)] [] fun y _ => y = .bool true := by
  refine acall_of is3 (by simp) ?_
  unfold cc3
  simp -implicitDefEqProofs (maxSteps := 500000) (disch := first | decide | omega) only [↓preS, ↓reduceIte, allS, Nat.reduceBEq, Nat.reduceAdd, Nat.reduceEqDiff, reduceIte, Int.reduceToNat, Int.reduceLE, Int.reduceLT, Nat.reduceLeDiff, Nat.reduceMul, Nat.reducePow, Nat.reduceLT, Int.reduceBEq, Int.reduceBNe, Int.reduceAdd, Int.reduceSub, Int.reduceMul, Int.reduceGT, Int.reduceGE, decS, Int.reduceNe, Int.reduceEq]
  refine acK_of (FCall.of (lent := false) (known_ok) (.refl rfl) rfl (by simp)) ?_
  simp -implicitDefEqProofs (maxSteps := 500000) (disch := first | decide | omega) only [↓preS, ↓reduceIte, allS, Nat.reduceBEq, Nat.reduceAdd, Nat.reduceEqDiff, reduceIte, Int.reduceToNat, Int.reduceLE, Int.reduceLT, Nat.reduceLeDiff, Nat.reduceMul, Nat.reducePow, Nat.reduceLT, Int.reduceBEq, Int.reduceBNe, Int.reduceAdd, Int.reduceSub, Int.reduceMul, Int.reduceGT, Int.reduceGE, decS, Int.reduceNe, Int.reduceEq]
  by_cases h1 : b.length > 300
  · simp -implicitDefEqProofs (maxSteps := 500000) (disch := first | decide | omega) only [↓preS, ↓reduceIte, allS, Nat.reduceBEq, Nat.reduceAdd, Nat.reduceEqDiff, reduceIte, Int.reduceToNat, Int.reduceLE, Int.reduceLT, Nat.reduceLeDiff, Nat.reduceMul, Nat.reducePow, Nat.reduceLT, Int.reduceBEq, Int.reduceBNe, Int.reduceAdd, Int.reduceSub, Int.reduceMul, Int.reduceGT, Int.reduceGE, decS, Int.reduceNe, Int.reduceEq]
  by_cases h2 : s.length > 500
  · simp -implicitDefEqProofs (maxSteps := 500000) (disch := first | decide | omega) only [↓preS, ↓reduceIte, allS, Nat.reduceBEq, Nat.reduceAdd, Nat.reduceEqDiff, reduceIte, Int.reduceToNat, Int.reduceLE, Int.reduceLT, Nat.reduceLeDiff, Nat.reduceMul, Nat.reducePow, Nat.reduceLT, Int.reduceBEq, Int.reduceBNe, Int.reduceAdd, Int.reduceSub, Int.reduceMul, Int.reduceGT, Int.reduceGE, decS, Int.reduceNe, Int.reduceEq]
  by_cases h3 : l.length > 100
  · simp -implicitDefEqProofs (maxSteps := 500000) (disch := first | decide | omega) only [↓preS, ↓reduceIte, allS, Nat.reduceBEq, Nat.reduceAdd, Nat.reduceEqDiff, reduceIte, Int.reduceToNat, Int.reduceLE, Int.reduceLT, Nat.reduceLeDiff, Nat.reduceMul, Nat.reducePow, Nat.reduceLT, Int.reduceBEq, Int.reduceBNe, Int.reduceAdd, Int.reduceSub, Int.reduceMul, Int.reduceGT, Int.reduceGE, decS, Int.reduceNe, Int.reduceEq]
  simp -implicitDefEqProofs (maxSteps := 500000) (disch := first | decide | omega) only [↓preS, ↓reduceIte, allS, Nat.reduceBEq, Nat.reduceAdd, Nat.reduceEqDiff, reduceIte, Int.reduceToNat, Int.reduceLE, Int.reduceLT, Nat.reduceLeDiff, Nat.reduceMul, Nat.reducePow, Nat.reduceLT, Int.reduceBEq, Int.reduceBNe, Int.reduceAdd, Int.reduceSub, Int.reduceMul, Int.reduceGT, Int.reduceGE, decS, Int.reduceNe, Int.reduceEq]
  have hm : min 65535 s.length = s.length := by omega
  have c1 := int_ok b n (by omega)
  have c2 := text_ok b s (by omega) (by omega)
  have c3 := ints_ok false b l (by omega) (by omega)
  have x1 := fun q => xint_ok b q n (by omega)
  have x2 := fun q => xtext_ok b q s (by omega) (by omega)
  have x3 := fun q => xints_ok false b q l (by omega) (by omega)
  unfold SB at c1 c2 c3
  refine ⟨⟨by omega, by omega⟩, ?_⟩
  repeat' first
    | (refine acK_of (FCall.of (lent := false) (c1) (.refl rfl) rfl (by simp)) ?_; simp -implicitDefEqProofs (maxSteps := 500000) (disch := first | decide | omega) only [↓preS, ↓reduceIte, allS, Nat.reduceBEq, Nat.reduceAdd, Nat.reduceEqDiff, reduceIte, Int.reduceToNat, Int.reduceLE, Int.reduceLT, Nat.reduceLeDiff, Nat.reduceMul, Nat.reducePow, Nat.reduceLT, Int.reduceBEq, Int.reduceBNe, Int.reduceAdd, Int.reduceSub, Int.reduceMul, Int.reduceGT, Int.reduceGE, decS, Int.reduceNe, Int.reduceEq, cbs_map, beq_self_eq_true])
    | (refine acK_of (FCall.of (lent := false) (c2) (.refl rfl) rfl (by simp)) ?_; simp -implicitDefEqProofs (maxSteps := 500000) (disch := first | decide | omega) only [↓preS, ↓reduceIte, allS, Nat.reduceBEq, Nat.reduceAdd, Nat.reduceEqDiff, reduceIte, Int.reduceToNat, Int.reduceLE, Int.reduceLT, Nat.reduceLeDiff, Nat.reduceMul, Nat.reducePow, Nat.reduceLT, Int.reduceBEq, Int.reduceBNe, Int.reduceAdd, Int.reduceSub, Int.reduceMul, Int.reduceGT, Int.reduceGE, decS, Int.reduceNe, Int.reduceEq, cbs_map, beq_self_eq_true])
    | (refine acK_of (FCall.of (lent := false) (c3) (.refl rfl) rfl (by simp)) ?_; simp -implicitDefEqProofs (maxSteps := 500000) (disch := first | decide | omega) only [↓preS, ↓reduceIte, allS, Nat.reduceBEq, Nat.reduceAdd, Nat.reduceEqDiff, reduceIte, Int.reduceToNat, Int.reduceLE, Int.reduceLT, Nat.reduceLeDiff, Nat.reduceMul, Nat.reducePow, Nat.reduceLT, Int.reduceBEq, Int.reduceBNe, Int.reduceAdd, Int.reduceSub, Int.reduceMul, Int.reduceGT, Int.reduceGE, decS, Int.reduceNe, Int.reduceEq, cbs_map, beq_self_eq_true])
    | (refine acK_wrote (q := []) (x1 []) (fun _ => rfl) rfl (by simp) (fun y1 G1 q1 g1 r1 => ?_); simp -implicitDefEqProofs (maxSteps := 500000) (disch := first | decide | omega) only [↓preS, ↓reduceIte, allS, Nat.reduceBEq, Nat.reduceAdd, Nat.reduceEqDiff, reduceIte, Int.reduceToNat, Int.reduceLE, Int.reduceLT, Nat.reduceLeDiff, Nat.reduceMul, Nat.reducePow, Nat.reduceLT, Int.reduceBEq, Int.reduceBNe, Int.reduceAdd, Int.reduceSub, Int.reduceMul, Int.reduceGT, Int.reduceGE, decS, Int.reduceNe, Int.reduceEq, nx_any y1, r1, cbs_map, beq_self_eq_true])
    | (refine acK_wrote (x2 _) (fun _ => rfl) rfl (by assumption) (fun y1 G1 q1 g1 r1 => ?_); simp -implicitDefEqProofs (maxSteps := 500000) (disch := first | decide | omega) only [↓preS, ↓reduceIte, allS, Nat.reduceBEq, Nat.reduceAdd, Nat.reduceEqDiff, reduceIte, Int.reduceToNat, Int.reduceLE, Int.reduceLT, Nat.reduceLeDiff, Nat.reduceMul, Nat.reducePow, Nat.reduceLT, Int.reduceBEq, Int.reduceBNe, Int.reduceAdd, Int.reduceSub, Int.reduceMul, Int.reduceGT, Int.reduceGE, decS, Int.reduceNe, Int.reduceEq, nx_any y1, r1, cbs_map, beq_self_eq_true])
    | (refine acK_wrote (x3 _) (fun _ => rfl) rfl (by assumption) (fun y1 G1 q1 g1 r1 => ?_); simp -implicitDefEqProofs (maxSteps := 500000) (disch := first | decide | omega) only [↓preS, ↓reduceIte, allS, Nat.reduceBEq, Nat.reduceAdd, Nat.reduceEqDiff, reduceIte, Int.reduceToNat, Int.reduceLE, Int.reduceLT, Nat.reduceLeDiff, Nat.reduceMul, Nat.reducePow, Nat.reduceLT, Int.reduceBEq, Int.reduceBNe, Int.reduceAdd, Int.reduceSub, Int.reduceMul, Int.reduceGT, Int.reduceGE, decS, Int.reduceNe, Int.reduceEq, nx_any y1, r1, cbs_map, beq_self_eq_true])
    | apply And.intro
end Go.Proofs.Ytbnnlhlmfcbaeaa
