/- What functions of the program compute. No condition. -/
import Derived.Test.YtcplpegahpmnjaaDoorU32
import Derived.Test.YtcplpegahpmnjaaDoorR5cCode
set_option linter.unusedSimpArgs false
set_option linter.unusedVariables false
namespace Go.Proofs.YtcplpegahpmnjaaDoor
open Go Go.Ab
set_option maxHeartbeats 2000000 in
theorem xfind_ok (tl tq : Bool) (ls : List (List UInt8)) (qs : List Queue) (p : List UInt8) (hl : qs.length < 2 ^ 62) (i : Nat) (hi : i < qs.length) (h : idxI (pathP p) qs = (i : Int)) (hc : qs[i].caps ≠ [] ∧ qs[i].caps.length ≤ 2 ^ 40) :
    PCall Tryd.prog 15 [CONF tl tq ls qs, .str p] (.tup [QUE qs[i], .bool true]) := by
  unfold PCall
  refine acallR_of isRd15 (by simp) ?_
  unfold cd15 CONF
  simp -implicitDefEqProofs (maxSteps := 500000) (disch := first | decide | omega) only [↓preS, ↓reduceIte, allS, Nat.reduceBEq, Nat.reduceAdd, Nat.reduceEqDiff, reduceIte, Int.reduceToNat, Int.reduceLE, Int.reduceLT, Nat.reduceLeDiff, Nat.reduceMul, Nat.reducePow, Nat.reduceLT, Int.reduceBEq, Int.reduceBNe, Int.reduceAdd, Int.reduceSub, Int.reduceMul, Int.reduceGT, Int.reduceGE, decS, Int.reduceNe, Int.reduceEq]
  unfold cd15L0
  simp -implicitDefEqProofs (maxSteps := 500000) (disch := first | decide | omega) only [↓preS, ↓reduceIte, allS, Nat.reduceBEq, Nat.reduceAdd, Nat.reduceEqDiff, reduceIte, Int.reduceToNat, Int.reduceLE, Int.reduceLT, Nat.reduceLeDiff, Nat.reduceMul, Nat.reducePow, Nat.reduceLT, Int.reduceBEq, Int.reduceBNe, Int.reduceAdd, Int.reduceSub, Int.reduceMul, Int.reduceGT, Int.reduceGE, decS, Int.reduceNe, Int.reduceEq]
  have hat : pathP p qs[i] = true ∧ ∀ j, (hj : j < i) → pathP p (qs[j]'(by omega)) = false := by
    rcases idx_cases (pathP p) qs with ⟨h1, _⟩ | ⟨k, hk, h1, h2, h3⟩
    · omega
    · have : k = i := by omega
      subst this
      exact ⟨h2, h3⟩
  obtain ⟨hat1, hat2⟩ := hat
  have hg : qs.getD i default = qs[i] := by simp [hi]
  refine aw_loopS (σ := Nat) (fun k => ⟨[(1, .str p), (2, .ref 0 0 0), (4, .ref 1 0 0), (6, .int .i64 (k : Int))], [.box [.sl tl 1 (ls.map AV.str), .sl tq 3 (qs.map QUE)], .box [.str [], .nils, .int .i64 0]]⟩) (fun k => k ≤ i) (fun k => i - k) 0 (.inl rfl) (by omega) ?_
  intro k hk
  unfold cd15l0
  by_cases hki : k < i
  · have hgk : qs.getD k default = qs[k] := by simp [show k < qs.length by omega]
    have hp : (qs[k].path == p) = false := hat2 k hki
    simp -implicitDefEqProofs (maxSteps := 500000) (disch := first | decide | omega) only [↓preS, ↓reduceIte, allS, Nat.reduceBEq, Nat.reduceAdd, Nat.reduceEqDiff, reduceIte, Int.reduceToNat, Int.reduceLE, Int.reduceLT, Nat.reduceLeDiff, Nat.reduceMul, Nat.reducePow, Nat.reduceLT, Int.reduceBEq, Int.reduceBNe, Int.reduceAdd, Int.reduceSub, Int.reduceMul, Int.reduceGT, Int.reduceGE, decS, Int.reduceNe, Int.reduceEq, queS, hgk, hp, List.append_nil]
    exact ⟨by omega, by omega, k + 1, .inl rfl, by omega, by omega⟩
  · have : k = i := by omega
    subst this
    have hp : (qs[k].path == p) = true := hat1
    simp -implicitDefEqProofs (maxSteps := 500000) (disch := first | decide | omega) only [↓preS, ↓reduceIte, allS, Nat.reduceBEq, Nat.reduceAdd, Nat.reduceEqDiff, reduceIte, Int.reduceToNat, Int.reduceLE, Int.reduceLT, Nat.reduceLeDiff, Nat.reduceMul, Nat.reducePow, Nat.reduceLT, Int.reduceBEq, Int.reduceBNe, Int.reduceAdd, Int.reduceSub, Int.reduceMul, Int.reduceGT, Int.reduceGE, decS, Int.reduceNe, Int.reduceEq, queS, queT1, hg, hp, fillOk, fillAV, List.append_nil]
    repeat' first | omega | apply And.intro
set_option maxHeartbeats 2000000 in
theorem xfind_no (tl tq : Bool) (ls : List (List UInt8)) (qs : List Queue) (p : List UInt8) (hl : qs.length < 2 ^ 62) (h : idxI (pathP p) qs = -1) :
    PCall Tryd.prog 15 [CONF tl tq ls qs, .str p] (.tup [NOQ, .bool false]) := by
  unfold PCall
  refine acallR_of isRd15 (by simp) ?_
  unfold cd15 CONF NOQ
  simp -implicitDefEqProofs (maxSteps := 500000) (disch := first | decide | omega) only [↓preS, ↓reduceIte, allS, Nat.reduceBEq, Nat.reduceAdd, Nat.reduceEqDiff, reduceIte, Int.reduceToNat, Int.reduceLE, Int.reduceLT, Nat.reduceLeDiff, Nat.reduceMul, Nat.reducePow, Nat.reduceLT, Int.reduceBEq, Int.reduceBNe, Int.reduceAdd, Int.reduceSub, Int.reduceMul, Int.reduceGT, Int.reduceGE, decS, Int.reduceNe, Int.reduceEq]
  unfold cd15L0
  simp -implicitDefEqProofs (maxSteps := 500000) (disch := first | decide | omega) only [↓preS, ↓reduceIte, allS, Nat.reduceBEq, Nat.reduceAdd, Nat.reduceEqDiff, reduceIte, Int.reduceToNat, Int.reduceLE, Int.reduceLT, Nat.reduceLeDiff, Nat.reduceMul, Nat.reducePow, Nat.reduceLT, Int.reduceBEq, Int.reduceBNe, Int.reduceAdd, Int.reduceSub, Int.reduceMul, Int.reduceGT, Int.reduceGE, decS, Int.reduceNe, Int.reduceEq]
  have hat : ∀ x ∈ qs, pathP p x = false := by
    rcases idx_cases (pathP p) qs with ⟨_, h1⟩ | ⟨k, hk, h1, h2, h3⟩
    · exact h1
    · omega
  refine aw_loopS (σ := Nat) (fun k => ⟨[(1, .str p), (2, .ref 0 0 0), (4, .ref 1 0 0), (6, .int .i64 (k : Int))], [.box [.sl tl 1 (ls.map AV.str), .sl tq 3 (qs.map QUE)], .box [.str [], .nils, .int .i64 0]]⟩) (fun k => k ≤ qs.length) (fun k => qs.length - k) 0 (.inl rfl) (by omega) ?_
  intro k hk
  unfold cd15l0
  by_cases hki : k < qs.length
  · have hgk : qs.getD k default = qs[k] := by simp [hki]
    have hp : (qs[k].path == p) = false := hat _ (List.getElem_mem hki)
    simp -implicitDefEqProofs (maxSteps := 500000) (disch := first | decide | omega) only [↓preS, ↓reduceIte, allS, Nat.reduceBEq, Nat.reduceAdd, Nat.reduceEqDiff, reduceIte, Int.reduceToNat, Int.reduceLE, Int.reduceLT, Nat.reduceLeDiff, Nat.reduceMul, Nat.reducePow, Nat.reduceLT, Int.reduceBEq, Int.reduceBNe, Int.reduceAdd, Int.reduceSub, Int.reduceMul, Int.reduceGT, Int.reduceGE, decS, Int.reduceNe, Int.reduceEq, queS, hgk, hp, List.append_nil]
    exact ⟨by omega, by omega, k + 1, .inl rfl, by omega, by omega⟩
  · simp -implicitDefEqProofs (maxSteps := 500000) (disch := first | decide | omega) only [↓preS, ↓reduceIte, allS, Nat.reduceBEq, Nat.reduceAdd, Nat.reduceEqDiff, reduceIte, Int.reduceToNat, Int.reduceLE, Int.reduceLT, Nat.reduceLeDiff, Nat.reduceMul, Nat.reducePow, Nat.reduceLT, Int.reduceBEq, Int.reduceBNe, Int.reduceAdd, Int.reduceSub, Int.reduceMul, Int.reduceGT, Int.reduceGE, decS, Int.reduceNe, Int.reduceEq, fillOk, fillAV]
def toPX (q : Queue) : PX := ⟨q.path, .sl false 2 (q.caps.map CAP), q.user⟩
theorem que_row (qs : List Queue) : qs.map QUE = (qs.map toPX).map ROW := by
  rw [List.map_map]
  rfl
def kidsXS (p : List UInt8) (pl : List (List UInt8)) : List (List UInt8) := pl.filter fun s => p != [] && (aboveP s).1 == p
theorem kidsX_eq (p : List UInt8) (qs : List Queue) : kidsX p (qs.map toPX) = kidsXS p (qs.map Queue.path) := by
  unfold kidsX kidsXS
  rw [List.filter_map, List.map_map, List.filter_map]
  rfl
theorem kidsXS_eq {t : List (List UInt8)} (h : kidsS [] t = []) (p : List UInt8) : kidsXS p t = kidsS p t := by
  by_cases hp : p = []
  · subst hp
    rw [h]
    unfold kidsXS
    simp
  · unfold kidsXS kidsS
    refine List.filter_congr fun s _ => ?_
    have h1 : (p != []) = true := by simp [hp]
    rw [h1, Bool.true_and]
    cases h2 : (aboveP s).2 with
    | true => rw [Bool.true_and]
    | false =>
      rw [Bool.false_and, beq_eq_false_iff_ne]
      intro h3
      unfold aboveP at h2 h3
      by_cases h4 : dotL s < 0
      · rw [if_pos h4] at h3
        exact hp h3.symm
      · rw [if_neg h4] at h2
        cases h2
theorem ykids_ok (tl tq : Bool) (ls : List (List UInt8)) (qs : List Queue) (p : List UInt8) (hl : qs.length ≤ 2 ^ 40) (hq : ∀ q ∈ qs, QOk q) :
    PCall Tryd.prog 18 [CONF tl tq ls qs, .str p] (.sl false 1 ((kidsXS p (qs.map Queue.path)).map AV.str)) := by
  have h := xkids_ok tl tq ls (qs.map toPX) p (by simpa using hl) (fun q hq2 => by
    obtain ⟨x, hx, rfl⟩ := List.mem_map.1 hq2
    exact (hq x hx).path)
  rw [kidsX_eq, ← que_row] at h
  exact h
set_option maxHeartbeats 2000000 in
theorem xleaf_ok (tl tq : Bool) (ls : List (List UInt8)) (qs : List Queue) (p : List UInt8) (hl : qs.length ≤ 2 ^ 40) (hq : ∀ q ∈ qs, QOk q) :
    PCall Tryd.prog 20 [CONF tl tq ls qs, .str p] (.bool (qs.any (pathP p) && (kidsXS p (qs.map Queue.path)).isEmpty)) := by
  unfold PCall
  refine acall_of is20 (by simp) ?_
  have hf := fun h => xfind_no tl tq ls qs p (by omega) h
  have hf2 := fun i hi h hc => xfind_ok tl tq ls qs p (by omega) i hi h hc
  have hk := ykids_ok tl tq ls qs p hl hq
  unfold cc20
  unfold CONF at hf hf2 hk ⊢
  simp -implicitDefEqProofs (maxSteps := 500000) (disch := first | decide | omega) only [↓preS, ↓reduceIte, allS, Nat.reduceBEq, Nat.reduceAdd, Nat.reduceEqDiff, reduceIte, Int.reduceToNat, Int.reduceLE, Int.reduceLT, Nat.reduceLeDiff, Nat.reduceMul, Nat.reducePow, Nat.reduceLT, Int.reduceBEq, Int.reduceBNe, Int.reduceAdd, Int.reduceSub, Int.reduceMul, Int.reduceGT, Int.reduceGE, decS, Int.reduceNe, Int.reduceEq]
  rcases idx_cases0 (pathP p) qs with ⟨h1, h2⟩ | ⟨i, hi, h1, h2⟩
  · refine acK_of (FCall.of (lent := false) (hf h1) (.refl rfl) rfl (by simp)) ?_
    unfold NOQ
    simp -implicitDefEqProofs (maxSteps := 500000) (disch := first | decide | omega) only [↓preS, ↓reduceIte, allS, Nat.reduceBEq, Nat.reduceAdd, Nat.reduceEqDiff, reduceIte, Int.reduceToNat, Int.reduceLE, Int.reduceLT, Nat.reduceLeDiff, Nat.reduceMul, Nat.reducePow, Nat.reduceLT, Int.reduceBEq, Int.reduceBNe, Int.reduceAdd, Int.reduceSub, Int.reduceMul, Int.reduceGT, Int.reduceGE, decS, Int.reduceNe, Int.reduceEq]
    rw [h2]
    rfl
  · have hx := hq _ (List.getElem_mem hi)
    refine acK_of (FCall.of (lent := false) (hf2 i hi h1 ⟨hx.caps, hx.len⟩) (.refl rfl) rfl (by simp)) ?_
    rw [h2]
    simp -implicitDefEqProofs (maxSteps := 500000) (disch := first | decide | omega) only [↓preS, ↓reduceIte, allS, Nat.reduceBEq, Nat.reduceAdd, Nat.reduceEqDiff, reduceIte, Int.reduceToNat, Int.reduceLE, Int.reduceLT, Nat.reduceLeDiff, Nat.reduceMul, Nat.reducePow, Nat.reduceLT, Int.reduceBEq, Int.reduceBNe, Int.reduceAdd, Int.reduceSub, Int.reduceMul, Int.reduceGT, Int.reduceGE, decS, Int.reduceNe, Int.reduceEq, queS, List.append_nil]
    refine acK_of (FCall.of (lent := false) (hk) (.refl rfl) rfl (by simp)) ?_
    generalize kidsXS p (qs.map Queue.path) = m
    simp -implicitDefEqProofs (maxSteps := 500000) (disch := first | decide | omega) only [↓preS, ↓reduceIte, allS, Nat.reduceBEq, Nat.reduceAdd, Nat.reduceEqDiff, reduceIte, Int.reduceToNat, Int.reduceLE, Int.reduceLT, Nat.reduceLeDiff, Nat.reduceMul, Nat.reducePow, Nat.reduceLT, Int.reduceBEq, Int.reduceBNe, Int.reduceAdd, Int.reduceSub, Int.reduceMul, Int.reduceGT, Int.reduceGE, decS, Int.reduceNe, Int.reduceEq]
    cases m with
    | nil => rfl
    | cons x m => simp; omega
theorem xup_ok (s : List UInt8) (hs : s.length ≤ 2 ^ 40) : PCall Tryd.prog 22 [.str s] (.sl false 1 ((upL s).map AV.str)) := by
  refine PCall.wk3 (acall_of is22 (by simp) ?_)
  unfold cc22
  simp -implicitDefEqProofs (maxSteps := 500000) (disch := first | decide | omega) only [↓preS, ↓reduceIte, allS, Nat.reduceBEq, Nat.reduceAdd, Nat.reduceEqDiff, reduceIte, Int.reduceToNat, Int.reduceLE, Int.reduceLT, Nat.reduceLeDiff, Nat.reduceMul, Nat.reducePow, Nat.reduceLT, Int.reduceBEq, Int.reduceBNe, Int.reduceAdd, Int.reduceSub, Int.reduceMul, Int.reduceGT, Int.reduceGE, decS, Int.reduceNe, Int.reduceEq]
  unfold cc22L0
  simp -implicitDefEqProofs (maxSteps := 500000) (disch := first | decide | omega) only [↓preS, ↓reduceIte, allS, Nat.reduceBEq, Nat.reduceAdd, Nat.reduceEqDiff, reduceIte, Int.reduceToNat, Int.reduceLE, Int.reduceLT, Nat.reduceLeDiff, Nat.reduceMul, Nat.reducePow, Nat.reduceLT, Int.reduceBEq, Int.reduceBNe, Int.reduceAdd, Int.reduceSub, Int.reduceMul, Int.reduceGT, Int.reduceGE, decS, Int.reduceNe, Int.reduceEq]
  refine aw_loopS (σ := List (List UInt8) × List UInt8) (fun q => ⟨[(0, .str q.2), (3, .own 0 1 0 q.1.length)], [.arr 1 (q.1.map AV.str)]⟩) (fun q => upL s = q.1 ++ upL q.2 ∧ q.2.length + q.1.length ≤ 2 ^ 40) (fun q => q.2.length) ([], s) ?_ ⟨rfl, by simp; omega⟩ ?_
  · (refine Sub.ofL [none] rfl (by simp) (by decide) (by simp [partL, AO.ro, AV.ro, AV.roL, names, AO.empty, SB, U8, SI, I64, STR] <;> (try and_intros) <;> rfl) (by simp [AO.bo, AV.bo, AV.boL, names] <;> (try and_intros) <;> rfl) ?_ <;> (try simp only [List.map_cons, List.map_nil, regsL, AV.ro, AV.roL, AV.bo, AV.boL, names, get_here, get_there, Nat.reduceBEq, List.getD_cons_zero, List.getD_cons_succ, List.getD_nil, and_true, true_and, Nat.reduceLT, List.length_cons, List.length_nil, Nat.reduceAdd, decide_true, Option.isSome_some, Bool.true_or, Bool.and_self, Option.isSome_none, Bool.false_or, beq_self_eq_true, wk0_self, wk0_nils]) <;> (try and_intros) <;> (first | done | rfl | exact .inl rfl | exact .inr ⟨rfl, _, _, rfl⟩ | (simp; done) | (simp; omega) | (refine .inl ?_; simp; done) | (refine .inl ?_; simp; omega)))
  rintro ⟨out, p⟩ ⟨hu, hl⟩
  simp only at hu hl
  unfold cc22l0
  by_cases hp : p = []
  · subst hp
    rw [upL_nil, List.append_nil] at hu
    simp -implicitDefEqProofs (maxSteps := 500000) (disch := first | decide | omega) only [↓preS, ↓reduceIte, allS, Nat.reduceBEq, Nat.reduceAdd, Nat.reduceEqDiff, reduceIte, Int.reduceToNat, Int.reduceLE, Int.reduceLT, Nat.reduceLeDiff, Nat.reduceMul, Nat.reducePow, Nat.reduceLT, Int.reduceBEq, Int.reduceBNe, Int.reduceAdd, Int.reduceSub, Int.reduceMul, Int.reduceGT, Int.reduceGE, decS, Int.reduceNe, Int.reduceEq]
    rw [hu]
    exact .inl (.inl (.inl rfl))
  · have hd : (p == ([] : List UInt8)) = false := by simp [hp]
    have hlen := above_len p hp
    rw [upL_cons hp] at hu
    simp -implicitDefEqProofs (maxSteps := 500000) (disch := first | decide | omega) only [↓preS, ↓reduceIte, allS, Nat.reduceBEq, Nat.reduceAdd, Nat.reduceEqDiff, reduceIte, Int.reduceToNat, Int.reduceLE, Int.reduceLT, Nat.reduceLeDiff, Nat.reduceMul, Nat.reducePow, Nat.reduceLT, Int.reduceBEq, Int.reduceBNe, Int.reduceAdd, Int.reduceSub, Int.reduceMul, Int.reduceGT, Int.reduceGE, decS, Int.reduceNe, Int.reduceEq, hd, Bool.not_false]
    refine ⟨by omega, ?_⟩
    refine acK_of (FCall.of (lent := false) (xabove_ok p (by omega)) (.refl rfl) rfl (by simp)) ?_
    simp -implicitDefEqProofs (maxSteps := 500000) (disch := first | decide | omega) only [↓preS, ↓reduceIte, allS, Nat.reduceBEq, Nat.reduceAdd, Nat.reduceEqDiff, reduceIte, Int.reduceToNat, Int.reduceLE, Int.reduceLT, Nat.reduceLeDiff, Nat.reduceMul, Nat.reducePow, Nat.reduceLT, Int.reduceBEq, Int.reduceBNe, Int.reduceAdd, Int.reduceSub, Int.reduceMul, Int.reduceGT, Int.reduceGE, decS, Int.reduceNe, Int.reduceEq]
    refine ⟨(out ++ [p], (aboveP p).1), ?_, ⟨by simp [hu], by simp; omega⟩, by simp only; omega⟩
    simp only [List.length_append, List.length_cons, List.length_nil, List.map_append, List.map_cons, List.map_nil]
    (refine Sub.ofL [some 2] rfl (by simp) (by decide) (by simp [partL, AO.ro, AV.ro, AV.roL, names, AO.empty, SB, U8, SI, I64, STR] <;> (try and_intros) <;> rfl) (by simp [AO.bo, AV.bo, AV.boL, names] <;> (try and_intros) <;> rfl) ?_ <;> (try simp only [List.map_cons, List.map_nil, regsL, AV.ro, AV.roL, AV.bo, AV.boL, names, get_here, get_there, Nat.reduceBEq, List.getD_cons_zero, List.getD_cons_succ, List.getD_nil, and_true, true_and, Nat.reduceLT, List.length_cons, List.length_nil, Nat.reduceAdd, decide_true, Option.isSome_some, Bool.true_or, Bool.and_self, Option.isSome_none, Bool.false_or, beq_self_eq_true, wk0_self, wk0_nils]) <;> (try and_intros) <;> (first | done | rfl | exact .inl rfl | exact .inr ⟨rfl, _, _, rfl⟩ | (simp; done) | (simp; omega) | (refine .inl ?_; simp; done) | (refine .inl ?_; simp; omega)))
theorem texts_ok (l : List (List UInt8)) (hl : l.length < 2 ^ 62) : PCall Tryd.prog 16 [.sl false 1 (l.map AV.str), .sl false 1 (l.map AV.str)] (.bool true) := by
  unfold PCall
  refine acall_of is16 (by simp) ?_
  unfold cc16
  simp -implicitDefEqProofs (maxSteps := 500000) (disch := first | decide | omega) only [↓preS, ↓reduceIte, allS, Nat.reduceBEq, Nat.reduceAdd, Nat.reduceEqDiff, reduceIte, Int.reduceToNat, Int.reduceLE, Int.reduceLT, Nat.reduceLeDiff, Nat.reduceMul, Nat.reducePow, Nat.reduceLT, Int.reduceBEq, Int.reduceBNe, Int.reduceAdd, Int.reduceSub, Int.reduceMul, Int.reduceGT, Int.reduceGE, decS, Int.reduceNe, Int.reduceEq]
  unfold cc16L0
  simp -implicitDefEqProofs (maxSteps := 500000) (disch := first | decide | omega) only [↓preS, ↓reduceIte, allS, Nat.reduceBEq, Nat.reduceAdd, Nat.reduceEqDiff, reduceIte, Int.reduceToNat, Int.reduceLE, Int.reduceLT, Nat.reduceLeDiff, Nat.reduceMul, Nat.reducePow, Nat.reduceLT, Int.reduceBEq, Int.reduceBNe, Int.reduceAdd, Int.reduceSub, Int.reduceMul, Int.reduceGT, Int.reduceGE, decS, Int.reduceNe, Int.reduceEq]
  refine aw_loopS (σ := Nat) (fun i => ⟨[(0, .sl false 1 (l.map AV.str)), (1, .sl false 1 (l.map AV.str)), (5, .int .i64 (i : Int))], []⟩) (fun i => i ≤ l.length) (fun i => l.length - i) 0 (.inl rfl) (by omega) ?_
  intro i hi
  unfold cc16l0
  by_cases hil : i < l.length
  · have hg : l.getD i default = l[i] := by simp [hil]
    have hb : (l[i] == l[i]) = true := by simp
    simp -implicitDefEqProofs (maxSteps := 500000) (disch := first | decide | omega) only [↓preS, ↓reduceIte, allS, Nat.reduceBEq, Nat.reduceAdd, Nat.reduceEqDiff, reduceIte, Int.reduceToNat, Int.reduceLE, Int.reduceLT, Nat.reduceLeDiff, Nat.reduceMul, Nat.reducePow, Nat.reduceLT, Int.reduceBEq, Int.reduceBNe, Int.reduceAdd, Int.reduceSub, Int.reduceMul, Int.reduceGT, Int.reduceGE, decS, Int.reduceNe, Int.reduceEq, hg, hb, Bool.not_true]
    exact ⟨by omega, by omega, by omega, by omega, i + 1, .inl rfl, by omega, by omega⟩
  · simp -implicitDefEqProofs (maxSteps := 500000) (disch := first | decide | omega) only [↓preS, ↓reduceIte, allS, Nat.reduceBEq, Nat.reduceAdd, Nat.reduceEqDiff, reduceIte, Int.reduceToNat, Int.reduceLE, Int.reduceLT, Nat.reduceLeDiff, Nat.reduceMul, Nat.reducePow, Nat.reduceLT, Int.reduceBEq, Int.reduceBNe, Int.reduceAdd, Int.reduceSub, Int.reduceMul, Int.reduceGT, Int.reduceGE, decS, Int.reduceNe, Int.reduceEq]
set_option maxHeartbeats 2000000 in
theorem xname_ok (s : List UInt8) (hs : s.length ≤ 2 ^ 40) : PCall Tryd.prog 23 [.str s] (.bool (nameP s)) := by
  unfold PCall
  refine acall_of is23 (by simp) ?_
  unfold cc23
  by_cases h1 : s.length < 1
  · have : s = [] := List.length_eq_zero_iff.1 (by omega)
    subst this
    simp -implicitDefEqProofs (maxSteps := 500000) (disch := first | decide | omega) only [↓preS, ↓reduceIte, allS, Nat.reduceBEq, Nat.reduceAdd, Nat.reduceEqDiff, reduceIte, Int.reduceToNat, Int.reduceLE, Int.reduceLT, Nat.reduceLeDiff, Nat.reduceMul, Nat.reducePow, Nat.reduceLT, Int.reduceBEq, Int.reduceBNe, Int.reduceAdd, Int.reduceSub, Int.reduceMul, Int.reduceGT, Int.reduceGE, decS, Int.reduceNe, Int.reduceEq]
    rfl
  by_cases h2 : s.length > 12
  · have e : nameP s = false := by
      unfold nameP
      rw [show decide (s.length ≤ 12) = false from decide_eq_false (by omega), Bool.and_false]
    rw [e]
    simp -implicitDefEqProofs (maxSteps := 500000) (disch := first | decide | omega) only [↓preS, ↓reduceIte, allS, Nat.reduceBEq, Nat.reduceAdd, Nat.reduceEqDiff, reduceIte, Int.reduceToNat, Int.reduceLE, Int.reduceLT, Nat.reduceLeDiff, Nat.reduceMul, Nat.reducePow, Nat.reduceLT, Int.reduceBEq, Int.reduceBNe, Int.reduceAdd, Int.reduceSub, Int.reduceMul, Int.reduceGT, Int.reduceGE, decS, Int.reduceNe, Int.reduceEq]
  simp -implicitDefEqProofs (maxSteps := 500000) (disch := first | decide | omega) only [↓preS, ↓reduceIte, allS, Nat.reduceBEq, Nat.reduceAdd, Nat.reduceEqDiff, reduceIte, Int.reduceToNat, Int.reduceLE, Int.reduceLT, Nat.reduceLeDiff, Nat.reduceMul, Nat.reducePow, Nat.reduceLT, Int.reduceBEq, Int.reduceBNe, Int.reduceAdd, Int.reduceSub, Int.reduceMul, Int.reduceGT, Int.reduceGE, decS, Int.reduceNe, Int.reduceEq]
  unfold cc23L0
  simp -implicitDefEqProofs (maxSteps := 500000) (disch := first | decide | omega) only [↓preS, ↓reduceIte, allS, Nat.reduceBEq, Nat.reduceAdd, Nat.reduceEqDiff, reduceIte, Int.reduceToNat, Int.reduceLE, Int.reduceLT, Nat.reduceLeDiff, Nat.reduceMul, Nat.reducePow, Nat.reduceLT, Int.reduceBEq, Int.reduceBNe, Int.reduceAdd, Int.reduceSub, Int.reduceMul, Int.reduceGT, Int.reduceGE, decS, Int.reduceNe, Int.reduceEq]
  refine aw_loopS (σ := Nat) (fun i => ⟨[(0, .str s), (3, .int .i64 (i : Int))], []⟩) (fun i => i ≤ s.length ∧ ∀ j, j < i → (h : j < s.length) → okc s[j] = true) (fun i => s.length - i) 0 (.inl rfl) ⟨by omega, fun j h => by omega⟩ ?_
  rintro i ⟨hi, hn⟩
  unfold cc23l0
  by_cases hil : i < s.length
  · have hg : s.getD i 0 = s[i] := by simp [hil]
    cases ho : okc s[i]
    · have h3 := nameP_bad hil ho
      rw [h3]
      have h4 : ¬ ((97 ≤ s[i].toNat ∧ s[i].toNat ≤ 122) ∨ (48 ≤ s[i].toNat ∧ s[i].toNat ≤ 57) ∨ s[i].toNat = 45) := fun h => by
        rw [(okc_iff _).2 h] at ho; cases ho
      rcases (by omega : (s[i].toNat < 48 ∧ s[i].toNat ≠ 45) ∨ (57 < s[i].toNat ∧ s[i].toNat < 97) ∨ (122 < s[i].toNat)) with h5 | h5 | h5 <;> (
        simp -implicitDefEqProofs (maxSteps := 500000) (disch := first | decide | omega) only [↓preS, ↓reduceIte, allS, Nat.reduceBEq, Nat.reduceAdd, Nat.reduceEqDiff, reduceIte, Int.reduceToNat, Int.reduceLE, Int.reduceLT, Nat.reduceLeDiff, Nat.reduceMul, Nat.reducePow, Nat.reduceLT, Int.reduceBEq, Int.reduceBNe, Int.reduceAdd, Int.reduceSub, Int.reduceMul, Int.reduceGT, Int.reduceGE, decS, Int.reduceNe, Int.reduceEq, hg]
        exact ⟨by omega, by omega⟩)
    · have h4 := (okc_iff _).1 ho
      rcases (by omega : (97 ≤ s[i].toNat ∧ s[i].toNat ≤ 122) ∨ (48 ≤ s[i].toNat ∧ s[i].toNat ≤ 57) ∨ s[i].toNat = 45) with h5 | h5 | h5 <;> (
        simp -implicitDefEqProofs (maxSteps := 500000) (disch := first | decide | omega) only [↓preS, ↓reduceIte, allS, Nat.reduceBEq, Nat.reduceAdd, Nat.reduceEqDiff, reduceIte, Int.reduceToNat, Int.reduceLE, Int.reduceLT, Nat.reduceLeDiff, Nat.reduceMul, Nat.reducePow, Nat.reduceLT, Int.reduceBEq, Int.reduceBNe, Int.reduceAdd, Int.reduceSub, Int.reduceMul, Int.reduceGT, Int.reduceGE, decS, Int.reduceNe, Int.reduceEq, hg]
        refine ⟨by omega, by omega, i + 1, .inl rfl, ⟨by omega, fun j hj h => ?_⟩, by omega⟩
        by_cases hji : j = i
        · subst hji; exact ho
        · exact hn j (by omega) h)
  · simp -implicitDefEqProofs (maxSteps := 500000) (disch := first | decide | omega) only [↓preS, ↓reduceIte, allS, Nat.reduceBEq, Nat.reduceAdd, Nat.reduceEqDiff, reduceIte, Int.reduceToNat, Int.reduceLE, Int.reduceLT, Nat.reduceLeDiff, Nat.reduceMul, Nat.reducePow, Nat.reduceLT, Int.reduceBEq, Int.reduceBNe, Int.reduceAdd, Int.reduceSub, Int.reduceMul, Int.reduceGT, Int.reduceGE, decS, Int.reduceNe, Int.reduceEq]
    rw [nameP_end fun j h => hn j (by omega) h]
    have hne : s.isEmpty = false := by
      cases s with
      | nil => simp at h1
      | cons a l => rfl
    rw [hne, decide_eq_true (show s.length ≤ 12 by omega)]
    rfl
end Go.Proofs.YtcplpegahpmnjaaDoor
