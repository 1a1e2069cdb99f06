/- What functions of the program compute. No condition. -/
import Derived.Test.YtlgdinihbomlpaaN3
set_option linter.unusedSimpArgs false
set_option linter.unusedVariables false
namespace Go.Proofs.Ytlgdinihbomlpaa
open Go Go.Ab

theorem _root_.Go.Ab.ACall.len {P : Program} {f : FuncId} {args : List AV} {H : List AO} {Post : AV → List AO → Prop} (h : ACall P f args H Post) : ACall P f args H fun y G => Post y G ∧ H.length ≤ G.length :=
  ⟨h.1, fun E vs hm hl hv => (h.2 E vs hm hl hv).mono fun e w' ⟨v, y, H', E', h1, h2, h3, h4, h5, h6⟩ => ⟨v, y, H', E', h1, h2, h3, h4, h5, h6, h5.num⟩⟩
theorem bor_st {H : List AO} {i1 i2 : Nat} {qs : List Queue} {l : List Node} {now : Int} (h1 : H[i1]? = some (.arr 3 (qs.map QUE))) (h2 : H[i2]? = some (.arr 8 (l.map NODE))) :
    Vw true H (.agg (stC (.own i1 3 0 qs.length) (.own i2 8 0 l.length) now)) (.agg (stC (.sl true 3 (qs.map QUE)) (.sl true 8 (l.map NODE)) now)) := by
  have e : bor H (.agg (stC (.own i1 3 0 qs.length) (.own i2 8 0 l.length) now)) = .agg (stC (.sl true 3 (qs.map QUE)) (.sl true 8 (l.map NODE)) now) := by
    simp [bor, bor1, stC, rdS, h1, h2, List.take_of_length_le]
  have := Vw.bor (H := H) (a := .agg (stC (.own i1 3 0 qs.length) (.own i2 8 0 l.length) now)) (by rw [e]; rfl)
  rwa [e] at this
theorem bor_stn {H : List AO} {i1 : Nat} {qs : List Queue} {now : Int} (h1 : H[i1]? = some (.arr 3 (qs.map QUE))) :
    Vw true H (.agg (stC (.own i1 3 0 qs.length) .nils now)) (.agg (stC (.sl true 3 (qs.map QUE)) .nils now)) := by
  have e : bor H (.agg (stC (.own i1 3 0 qs.length) .nils now)) = .agg (stC (.sl true 3 (qs.map QUE)) .nils now) := by
    simp [bor, bor1, stC, rdS, h1, List.take_of_length_le]
  have := Vw.bor (H := H) (a := .agg (stC (.own i1 3 0 qs.length) .nils now)) (by rw [e]; rfl)
  rwa [e] at this
structure OkN (n : Node) : Prop where
  i0 : 0 ≤ n.id
  i9 : n.id ≤ 999
  l0 : n.label = 0
  r0 : 0 ≤ n.rack
  r9 : n.rack ≤ 99
  m0 : 0 ≤ n.mem
  m9 : n.mem ≤ 2 ^ 30
  c0 : 0 ≤ n.cores
  c9 : n.cores ≤ 2 ^ 30
theorem in_t (a b : Int) (h : 0 ≤ a ∧ a ≤ b) : PCall Try.prog 17 [.int .i64 a, .int .i64 b] (.bool true) := by
  have := in_ok a b
  rwa [decide_eq_true h] at this
def newN (now : Int) (n : Node) : Node := { n with seen := now, beat := 0, up := true }
def insK (p : Int) (m : List Node) : Nat := m.findIdx fun x => !decide (x.id < p)
def regF (now : Int) (n : Node) (l : List Node) : List Node × Int :=
  let i := idxI (idP n.id) l
  if 0 ≤ i ∧ (l.getD i.toNat default).up then (l, 7)
  else if i < 0 ∧ 12 ≤ l.length then (l, 4)
  else if 0 ≤ i then (l.set i.toNat (newN now n), 0)
  else (insL (insK n.id l) (newN now n) l, 0)
theorem find_ok (tq tn : Bool) (qs : List Queue) (l : List Node) (now id : Int) (hl : l.length < 2 ^ 63) (i : Nat) (hi : i < l.length) (h : idxI (idP id) l = (i : Int)) : PCall Try.prog 13 [.agg (stC (.sl tq 3 (qs.map QUE)) (.sl tn 8 (l.map NODE)) now), .int .i64 id] (.tup [NODE l[i], .bool true]) := by
  unfold PCall
  have hg : l.getD i default = l[i] := by simp [hi]
  refine acallR_of isR13 (by simp) ?_
  unfold cc13 stC
  simp -implicitDefEqProofs (maxSteps := 500000) (disch := first | decide | omega) only [↓preS, ↓reduceIte, allS, Nat.reduceBEq, Nat.reduceAdd, Nat.reduceEqDiff, reduceIte, Int.reduceToNat, Int.reduceLE, Int.reduceLT, Nat.reduceLeDiff, Nat.reduceMul, Nat.reducePow, Nat.reduceLT, Int.reduceBEq, Int.reduceBNe, Int.reduceAdd, Int.reduceSub, Int.reduceMul, Int.reduceGT, Int.reduceGE, decS, Int.reduceNe, Int.reduceEq]
  refine acK_of (FCall.of (lent := false) (at_ok tq tn qs l now id hl) (.refl rfl) rfl (by simp)) ?_
  rw [h]
  simp -implicitDefEqProofs (maxSteps := 500000) (disch := first | decide | omega) only [↓preS, ↓reduceIte, allS, Nat.reduceBEq, Nat.reduceAdd, Nat.reduceEqDiff, reduceIte, Int.reduceToNat, Int.reduceLE, Int.reduceLT, Nat.reduceLeDiff, Nat.reduceMul, Nat.reducePow, Nat.reduceLT, Int.reduceBEq, Int.reduceBNe, Int.reduceAdd, Int.reduceSub, Int.reduceMul, Int.reduceGT, Int.reduceGE, decS, Int.reduceNe, Int.reduceEq, nodeS, hg, List.append_nil]
  omega
theorem findn_ok (tq : Bool) (qs : List Queue) (now id : Int) : PCall Try.prog 13 [.agg (stC (.sl tq 3 (qs.map QUE)) .nils now), .int .i64 id] (.tup [NODE ⟨0, 0, 0, 0, 0, 0, 0, false⟩, .bool false]) := by
  unfold PCall
  refine acallR_of isR13 (by simp) ?_
  unfold cc13 stC
  simp -implicitDefEqProofs (maxSteps := 500000) (disch := first | decide | omega) only [↓preS, ↓reduceIte, allS, Nat.reduceBEq, Nat.reduceAdd, Nat.reduceEqDiff, reduceIte, Int.reduceToNat, Int.reduceLE, Int.reduceLT, Nat.reduceLeDiff, Nat.reduceMul, Nat.reducePow, Nat.reduceLT, Int.reduceBEq, Int.reduceBNe, Int.reduceAdd, Int.reduceSub, Int.reduceMul, Int.reduceGT, Int.reduceGE, decS, Int.reduceNe, Int.reduceEq]
  refine acK_of (FCall.of (lent := false) (atn_ok tq qs now id) (.refl rfl) rfl (by simp)) ?_
  simp -implicitDefEqProofs (maxSteps := 500000) (disch := first | decide | omega) only [↓preS, ↓reduceIte, allS, Nat.reduceBEq, Nat.reduceAdd, Nat.reduceEqDiff, reduceIte, Int.reduceToNat, Int.reduceLE, Int.reduceLT, Nat.reduceLeDiff, Nat.reduceMul, Nat.reducePow, Nat.reduceLT, Int.reduceBEq, Int.reduceBNe, Int.reduceAdd, Int.reduceSub, Int.reduceMul, Int.reduceGT, Int.reduceGE, decS, Int.reduceNe, Int.reduceEq, fillOk, fillAV]
  rfl
set_option maxRecDepth 20000 in
set_option maxHeartbeats 8000000 in
theorem reg_nil (tq : Bool) (qs : List Queue) (hq : qC qs) (now : Int) (n : Node) (hn : OkN n) : PCall Try.prog 10 [.agg (stC (.sl tq 3 (qs.map QUE)) .nils now), NODE n] (.tup [.agg (stC (.sl false 3 (qs.map QUE)) (.sl false 8 ([newN now n].map NODE)) now), .int .i64 0]) := by
  unfold PCall
  refine acallR_of isR10 (by simp) ?_
  unfold cc10 stC
  simp -implicitDefEqProofs (maxSteps := 500000) (disch := first | decide | omega) only [↓preS, ↓reduceIte, allS, Nat.reduceBEq, Nat.reduceAdd, Nat.reduceEqDiff, reduceIte, Int.reduceToNat, Int.reduceLE, Int.reduceLT, Nat.reduceLeDiff, Nat.reduceMul, Nat.reducePow, Nat.reduceLT, Int.reduceBEq, Int.reduceBNe, Int.reduceAdd, Int.reduceSub, Int.reduceMul, Int.reduceGT, Int.reduceGE, decS, Int.reduceNe, Int.reduceEq, nodeS]
  refine acK_new (own_nil tq qs hq now) rfl rfl ?_
  rintro y G ⟨rfl, rfl⟩
  unfold stC
  simp -implicitDefEqProofs (maxSteps := 500000) (disch := first | decide | omega) only [↓preS, ↓reduceIte, allS, Nat.reduceBEq, Nat.reduceAdd, Nat.reduceEqDiff, reduceIte, Int.reduceToNat, Int.reduceLE, Int.reduceLT, Nat.reduceLeDiff, Nat.reduceMul, Nat.reducePow, Nat.reduceLT, Int.reduceBEq, Int.reduceBNe, Int.reduceAdd, Int.reduceSub, Int.reduceMul, Int.reduceGT, Int.reduceGE, decS, Int.reduceNe, Int.reduceEq, AV.ren, AO.ren, up, AV.renL, nodeS]
  refine acK_of (FCall.of (lent := true) (atn_ok true qs now n.id) (.cons (bor_stn rfl) (.cons (Vw.refl rfl) .nil)) rfl (fun _ => rfl)) ?_
  obtain ⟨i0, i9, l0, r0, r9, m0, m9, c0, c9⟩ := hn
  simp -implicitDefEqProofs (maxSteps := 500000) (disch := first | decide | omega) only [↓preS, ↓reduceIte, allS, Nat.reduceBEq, Nat.reduceAdd, Nat.reduceEqDiff, reduceIte, Int.reduceToNat, Int.reduceLE, Int.reduceLT, Nat.reduceLeDiff, Nat.reduceMul, Nat.reducePow, Nat.reduceLT, Int.reduceBEq, Int.reduceBNe, Int.reduceAdd, Int.reduceSub, Int.reduceMul, Int.reduceGT, Int.reduceGE, decS, Int.reduceNe, Int.reduceEq, nodeS]
  refine acK_of (FCall.of (lent := false) (in_t n.id 999 ⟨i0, i9⟩) (.refl rfl) rfl (by simp)) ?_
  simp -implicitDefEqProofs (maxSteps := 500000) (disch := first | decide | omega) only [↓preS, ↓reduceIte, allS, Nat.reduceBEq, Nat.reduceAdd, Nat.reduceEqDiff, reduceIte, Int.reduceToNat, Int.reduceLE, Int.reduceLT, Nat.reduceLeDiff, Nat.reduceMul, Nat.reducePow, Nat.reduceLT, Int.reduceBEq, Int.reduceBNe, Int.reduceAdd, Int.reduceSub, Int.reduceMul, Int.reduceGT, Int.reduceGE, decS, Int.reduceNe, Int.reduceEq, nodeS]
  refine acK_of (FCall.of (lent := false) (in_t n.label _ (by simp [l0])) (.refl rfl) rfl (by simp)) ?_
  simp -implicitDefEqProofs (maxSteps := 500000) (disch := first | decide | omega) only [↓preS, ↓reduceIte, allS, Nat.reduceBEq, Nat.reduceAdd, Nat.reduceEqDiff, reduceIte, Int.reduceToNat, Int.reduceLE, Int.reduceLT, Nat.reduceLeDiff, Nat.reduceMul, Nat.reducePow, Nat.reduceLT, Int.reduceBEq, Int.reduceBNe, Int.reduceAdd, Int.reduceSub, Int.reduceMul, Int.reduceGT, Int.reduceGE, decS, Int.reduceNe, Int.reduceEq, nodeS]
  refine acK_of (FCall.of (lent := false) (in_t n.rack _ ⟨r0, r9⟩) (.refl rfl) rfl (by simp)) ?_
  simp -implicitDefEqProofs (maxSteps := 500000) (disch := first | decide | omega) only [↓preS, ↓reduceIte, allS, Nat.reduceBEq, Nat.reduceAdd, Nat.reduceEqDiff, reduceIte, Int.reduceToNat, Int.reduceLE, Int.reduceLT, Nat.reduceLeDiff, Nat.reduceMul, Nat.reducePow, Nat.reduceLT, Int.reduceBEq, Int.reduceBNe, Int.reduceAdd, Int.reduceSub, Int.reduceMul, Int.reduceGT, Int.reduceGE, decS, Int.reduceNe, Int.reduceEq, nodeS]
  refine acK_of (FCall.of (lent := false) (in_t n.mem _ ⟨m0, m9⟩) (.refl rfl) rfl (by simp)) ?_
  simp -implicitDefEqProofs (maxSteps := 500000) (disch := first | decide | omega) only [↓preS, ↓reduceIte, allS, Nat.reduceBEq, Nat.reduceAdd, Nat.reduceEqDiff, reduceIte, Int.reduceToNat, Int.reduceLE, Int.reduceLT, Nat.reduceLeDiff, Nat.reduceMul, Nat.reducePow, Nat.reduceLT, Int.reduceBEq, Int.reduceBNe, Int.reduceAdd, Int.reduceSub, Int.reduceMul, Int.reduceGT, Int.reduceGE, decS, Int.reduceNe, Int.reduceEq, nodeS]
  refine acK_of (FCall.of (lent := false) (in_t n.cores _ ⟨c0, c9⟩) (.refl rfl) rfl (by simp)) ?_
  simp -implicitDefEqProofs (maxSteps := 500000) (disch := first | decide | omega) only [↓preS, ↓reduceIte, allS, Nat.reduceBEq, Nat.reduceAdd, Nat.reduceEqDiff, reduceIte, Int.reduceToNat, Int.reduceLE, Int.reduceLT, Nat.reduceLeDiff, Nat.reduceMul, Nat.reducePow, Nat.reduceLT, Int.reduceBEq, Int.reduceBNe, Int.reduceAdd, Int.reduceSub, Int.reduceMul, Int.reduceGT, Int.reduceGE, decS, Int.reduceNe, Int.reduceEq, nodeS, fillOk, fillAV, List.append_nil]
  unfold cc10L0
  simp -implicitDefEqProofs (maxSteps := 500000) (disch := first | decide | omega) only [↓preS, ↓reduceIte, allS, Nat.reduceBEq, Nat.reduceAdd, Nat.reduceEqDiff, reduceIte, Int.reduceToNat, Int.reduceLE, Int.reduceLT, Nat.reduceLeDiff, Nat.reduceMul, Nat.reducePow, Nat.reduceLT, Int.reduceBEq, Int.reduceBNe, Int.reduceAdd, Int.reduceSub, Int.reduceMul, Int.reduceGT, Int.reduceGE, decS, Int.reduceNe, Int.reduceEq, nodeS]
  refine aw_loopS (σ := Unit) (fun _ => ⟨[(2, .ref 0 0 0), (3, .ref 1 0 0), (4, .ref 2 0 0), (7, .int .i64 0)], [.box [.sl false 1 [.str []], .own 3 3 0 qs.length, .nils, .nils, .nils, .nils, .nils, .int .i64 now, .int .i64 0, .int .i64 0], .box (nodeC (newN now n)), .box [.nils, .nils, .nils, .nils, .nils, .nils, .nils, .int .i64 0, .int .i64 0, .int .i64 0], .arr 3 (qs.map QUE)]⟩) (fun _ => True) (fun _ => 0) () (.inl rfl) trivial ?_
  intro _ _
  generalize newN now n = m
  unfold cc10l0
  simp -implicitDefEqProofs (maxSteps := 500000) (disch := first | decide | omega) only [↓preS, ↓reduceIte, allS, Nat.reduceBEq, Nat.reduceAdd, Nat.reduceEqDiff, reduceIte, Int.reduceToNat, Int.reduceLE, Int.reduceLT, Nat.reduceLeDiff, Nat.reduceMul, Nat.reducePow, Nat.reduceLT, Int.reduceBEq, Int.reduceBNe, Int.reduceAdd, Int.reduceSub, Int.reduceMul, Int.reduceGT, Int.reduceGE, decS, Int.reduceNe, Int.reduceEq, nodeS, List.append_nil]
  refine ((insn_ok m []).len.frame [4] rfl (by simp) (by simp) ?_ rfl).to ?_
  · intro k o hk
    match k, hk with
    | 0, hk => simp only [List.getElem?_cons_zero, Option.some.injEq] at hk; subst hk; exact ⟨rfl, rfl⟩
    | k + 1, hk => simp at hk
  rintro y G ⟨y0, Hr, ⟨rfl, hHr⟩, rfl, rfl⟩
  match Hr, hHr with
  | o1 :: G, _ =>
  simp only [spl, setAll, List.length_cons, List.length_nil, Nat.reduceAdd, List.take_succ_cons, List.take_zero, List.drop_succ_cons, List.drop_zero, List.map_cons, List.map_nil, List.set_cons_succ, List.set_cons_zero, List.cons_append, List.nil_append]
  generalize List.map _ G = G
  generalize AO.ren _ o1 = o1
  simp -implicitDefEqProofs (maxSteps := 500000) (disch := first | decide | omega) only [↓preS, ↓reduceIte, allS, Nat.reduceBEq, Nat.reduceAdd, Nat.reduceEqDiff, reduceIte, Int.reduceToNat, Int.reduceLE, Int.reduceLT, Nat.reduceLeDiff, Nat.reduceMul, Nat.reducePow, Nat.reduceLT, Int.reduceBEq, Int.reduceBNe, Int.reduceAdd, Int.reduceSub, Int.reduceMul, Int.reduceGT, Int.reduceGE, decS, Int.reduceNe, Int.reduceEq, AV.ren]
end Go.Proofs.Ytlgdinihbomlpaa
