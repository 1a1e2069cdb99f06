/- What functions of the program compute. No condition. -/
import Derived.Test.YtglimfdofgadjaaA11
set_option linter.unusedSimpArgs false
set_option linter.unusedVariables false
namespace Go.Proofs.Ytglimfdofgadjaa
open Go Go.Ab

structure Has (l : List Ask) (a : Ask) (c : Int) : Prop where
  al : ∀ x ∈ l, x.prio = a.prio → x.label = a.label ∧ x.mem = a.mem ∧ x.cores = a.cores ∧ x.count = c
  ex : c ≠ 0 → l.any (prioP a.prio) = true
theorem has_set {a : Ask} {l b : List Ask} {e : Int} (h : setL a l = (b, 0)) : Has b a a.count := by
  refine ⟨fun x hx hp => ?_, fun hc => ?_⟩
  · have : x ∈ (setL a l).1 := by rw [h]; exact hx
    rcases set_mem this with ⟨rfl, _⟩ | ⟨_, hn⟩
    · exact ⟨rfl, rfl, rfl, rfl⟩
    · exact absurd hp hn
  · rcases set_cases a l with ⟨e, _⟩ | ⟨h0, _⟩ | ⟨_, _, e⟩
    · rw [e] at h; cases h
    · exact absurd h0 hc
    · rw [e] at h
      cases h
      exact List.any_eq_true.2 ⟨_, mem_ins.2 (.inl rfl), by simp [prioP]⟩
theorem has_miss {a : Ask} {l : List Ask} {c : Int} (p : Int) (h : Has l a c) : Has (xmissL p l) a c := by
  unfold xmissL
  refine ⟨fun x hx hp => ?_, fun hc => ?_⟩
  · obtain ⟨y, hy, rfl⟩ := List.mem_map.1 hx
    unfold mF at hp ⊢
    split
    · rename_i hq
      rw [if_pos hq] at hp
      exact h.al y hy hp
    · rename_i hq
      rw [if_neg hq] at hp
      exact h.al y hy hp
  · obtain ⟨y, hy, hp⟩ := List.any_eq_true.1 (h.ex hc)
    refine List.any_eq_true.2 ⟨_, List.mem_map_of_mem hy, ?_⟩
    unfold mF
    split <;> exact hp
theorem has_take {a : Ask} {l : List Ask} {c : Int} (hc : 1 ≤ c) (h : Has l a c) : Has (xtakeL a.prio l).1 a (c - 1) := by
  unfold xtakeL
  refine ⟨fun x hx hp => ?_, fun hc2 => ?_⟩
  · obtain ⟨y, hy, hyx⟩ := List.mem_filterMap.1 hx
    have hp2 : y.prio = a.prio := (tk_prio hyx).symm.trans hp
    obtain ⟨h1, h2, h3, h4⟩ := h.al y hy hp2
    unfold tkF at hyx
    rw [if_pos hp2] at hyx
    split at hyx
    · cases hyx
    · cases hyx
      exact ⟨h1, h2, h3, by simp only; omega⟩
  · obtain ⟨y, hy, hp⟩ := List.any_eq_true.1 (h.ex (by omega))
    have hp2 : y.prio = a.prio := by simpa [prioP] using hp
    obtain ⟨h1, h2, h3, h4⟩ := h.al y hy hp2
    refine List.any_eq_true.2 ⟨{ y with count := y.count - 1, missed := 0 }, List.mem_filterMap.2 ⟨y, hy, ?_⟩, hp⟩
    unfold tkF
    rw [if_pos hp2, if_neg (by omega)]
theorem take_missed {p : Int} {l : List Ask} {x : Ask} (hx : x ∈ (xtakeL p l).1) (hp : x.prio = p) : x.missed = 0 := by
  obtain ⟨y, hy, hyx⟩ := List.mem_filterMap.1 hx
  have hp2 : y.prio = p := (tk_prio hyx).symm.trans hp
  unfold tkF at hyx
  rw [if_pos hp2] at hyx
  split at hyx
  · cases hyx
  · cases hyx; rfl
theorem fm_same {p : Int} {m : List Ask} (hm : ∀ x ∈ m, x.prio ≠ p) : m.filterMap (tkF p) = m :=
  fm_id _ _ fun x hx => by simp [tkF, hm x hx]
theorem split_so {p : Int} {l : List Ask} (h : l.Pairwise (fun x y => x.prio < y.prio)) (ha : l.any (prioP p) = true) : ∃ l1 x l2, l = l1 ++ x :: l2 ∧ x.prio = p ∧ (∀ y ∈ l1, y.prio ≠ p) ∧ ∀ y ∈ l2, y.prio ≠ p := by
  obtain ⟨x, hx, hp⟩ := List.any_eq_true.1 ha
  have hp : x.prio = p := by simpa [prioP] using hp
  obtain ⟨l1, l2, rfl⟩ := List.append_of_mem hx
  rw [List.pairwise_append] at h
  obtain ⟨_, h2, h3⟩ := h
  refine ⟨l1, x, l2, rfl, hp, fun y hy => ?_, fun y hy => ?_⟩
  · have := h3 y hy x List.mem_cons_self
    omega
  · have := (List.pairwise_cons.1 h2).1 y hy
    omega
theorem pend_take {a : Ask} {l : List Ask} {c : Int} (inv : Inv l) (hc : 1 ≤ c) (h : Has l a c) :
    (pendL a.label l).1 - (pendL a.label (xtakeL a.prio l).1).1 = a.mem ∧ (pendL a.label l).2 - (pendL a.label (xtakeL a.prio l).1).2 = a.cores := by
  obtain ⟨l1, x, l2, rfl, hp, n1, n2⟩ := split_so inv.so (h.ex (by omega))
  obtain ⟨h1, h2, h3, h4⟩ := h.al x (by simp) hp
  unfold xtakeL pendL
  simp only
  rw [List.filterMap_append, List.filterMap_cons, fm_same n1, fm_same n2]
  rw [pend_sum, pend_sum]
  have e1 : g1 a.label x = a.mem * c := by unfold g1; rw [h1, if_pos rfl, h2, h4]
  have e2 : g2 a.label x = a.cores * c := by unfold g2; rw [h1, if_pos rfl, h3, h4]
  have m1 : a.mem * (c - 1) = a.mem * c - a.mem := by rw [Int.mul_sub, Int.mul_one]
  have m2 : a.cores * (c - 1) = a.cores * c - a.cores := by rw [Int.mul_sub, Int.mul_one]
  unfold tkF
  rw [if_pos hp]
  by_cases hz : x.count - 1 ≤ 0
  · have hc1 : c = 1 := by omega
    subst hc1
    rw [if_pos hz]
    simp only [List.map_append, List.map_cons, List.sum_append, List.sum_cons, e1, e2]
    omega
  · rw [if_neg hz]
    have e3 : g1 a.label { x with count := x.count - 1, missed := 0 } = a.mem * (c - 1) := by unfold g1; simp only; rw [h1, if_pos rfl, h2, h4]
    have e4 : g2 a.label { x with count := x.count - 1, missed := 0 } = a.cores * (c - 1) := by unfold g2; simp only; rw [h1, if_pos rfl, h3, h4]
    simp only [List.map_append, List.map_cons, List.sum_append, List.sum_cons, e1, e2, e3, e4, m1, m2]
    omega
theorem take_end {a : Ask} {l : List Ask} (inv : Inv l) (h : Has l a 0) : xtakeL a.prio l = (l, false) := by
  have n : ∀ x ∈ l, x.prio ≠ a.prio := fun x hx hp => (inv.gd x hx).2 (h.al x hx hp).2.2.2
  unfold xtakeL
  rw [fm_same n]
  congr 1
  rw [List.any_eq_false]
  intro x hx
  simp [prioP, n x hx]
set_option maxRecDepth 20000 in
set_option maxHeartbeats 4000000 in
theorem takes_law (a : Ask) (o : List Ask) (ho : o.length < 2 ^ 63) (ms : Int) : ACall Try.prog 7 [ASK a, .sl false 8 (o.map ASK), .int .i64 ms] [] fun y _ => y = .bool true := by
  refine acall_of is7 (by simp) ?_
  unfold cc7
  simp -implicitDefEqProofs (maxSteps := 500000) (disch := first | decide | omega) only [↓preS, ↓reduceIte, allS, Nat.reduceBEq, Nat.reduceAdd, Nat.reduceEqDiff, reduceIte, Int.reduceToNat, Int.reduceLE, Int.reduceLT, Nat.reduceLeDiff, Nat.reduceMul, Nat.reducePow, Nat.reduceLT, Int.reduceBEq, Int.reduceBNe, Int.reduceAdd, Int.reduceSub, Int.reduceMul, Int.reduceGT, Int.reduceGE, decS, Int.reduceNe, Int.reduceEq, askS]
  refine acK_of (FCall.of (lent := false) (known_ok) (.refl rfl) rfl (by simp)) ?_
  simp -implicitDefEqProofs (maxSteps := 500000) (disch := first | decide | omega) only [↓preS, ↓reduceIte, allS, Nat.reduceBEq, Nat.reduceAdd, Nat.reduceEqDiff, reduceIte, Int.reduceToNat, Int.reduceLE, Int.reduceLT, Nat.reduceLeDiff, Nat.reduceMul, Nat.reducePow, Nat.reduceLT, Int.reduceBEq, Int.reduceBNe, Int.reduceAdd, Int.reduceSub, Int.reduceMul, Int.reduceGT, Int.reduceGE, decS, Int.reduceNe, Int.reduceEq, askS, askT]
  refine acK_of (FCall.of (lent := false) (good_ok a) (.refl rfl) rfl (by simp)) ?_
  have gd := gd_good a
  generalize goodA a = a at gd
  simp -implicitDefEqProofs (maxSteps := 500000) (disch := first | decide | omega) only [↓preS, ↓reduceIte, allS, Nat.reduceBEq, Nat.reduceAdd, Nat.reduceEqDiff, reduceIte, Int.reduceToNat, Int.reduceLE, Int.reduceLT, Nat.reduceLeDiff, Nat.reduceMul, Nat.reducePow, Nat.reduceLT, Int.reduceBEq, Int.reduceBNe, Int.reduceAdd, Int.reduceSub, Int.reduceMul, Int.reduceGT, Int.reduceGE, decS, Int.reduceNe, Int.reduceEq, askS, askT, List.append_nil]
  unfold cc7L3
  simp -implicitDefEqProofs (maxSteps := 500000) (disch := first | decide | omega) only [↓preS, ↓reduceIte, allS, Nat.reduceBEq, Nat.reduceAdd, Nat.reduceEqDiff, reduceIte, Int.reduceToNat, Int.reduceLE, Int.reduceLT, Nat.reduceLeDiff, Nat.reduceMul, Nat.reducePow, Nat.reduceLT, Int.reduceBEq, Int.reduceBNe, Int.reduceAdd, Int.reduceSub, Int.reduceMul, Int.reduceGT, Int.reduceGE, decS, Int.reduceNe, Int.reduceEq, askS]
  refine aw_loopS (σ := Nat × List Ask) (fun q => ⟨[(1, .sl false 8 (o.map ASK)), (2, .int .i64 ms), (3, .ref 0 0 0), (7, .sl false 8 (q.2.map ASK)), (8, .int .i64 (q.1 : Int))], [.box (askC a)]⟩)
    (fun q => q.1 ≤ o.length ∧ q.1 ≤ 5 ∧ Inv q.2 ∧ q.2.length ≤ q.1) (fun q => 5 - q.1) (0, []) ?_ ⟨by simp, by simp, Inv.nil, by simp⟩ ?_
  · (refine Sub.ofL [some 0] rfl (by simp) (by decide) (by simp [partL, AO.ro, AV.ro, AV.roL, names, AO.empty, SB, U8, SI, I64, STR] <;> (try and_intros) <;> rfl) (by simp [AO.bo, AV.bo, AV.boL, names] <;> (try and_intros) <;> rfl) ?_ <;> (try simp only [List.map_cons, List.map_nil, regsL, AV.ro, AV.roL, AV.bo, AV.boL, names, get_here, get_there, Nat.reduceBEq, List.getD_cons_zero, List.getD_cons_succ, List.getD_nil, and_true, true_and, Nat.reduceLT, List.length_cons, List.length_nil, Nat.reduceAdd, decide_true, Option.isSome_some, Bool.true_or, Bool.and_self, Option.isSome_none, Bool.false_or, beq_self_eq_true, wk0_self, wk0_nils]) <;> (try and_intros) <;> (first | done | rfl | exact .inl rfl | exact .inr ⟨rfl, _, _, rfl⟩ | (simp; done) | (simp; omega) | (refine .inl ?_; simp; done) | (refine .inl ?_; simp; omega)))
  rintro ⟨i, l⟩ ⟨hi1, hi2, inv, hm⟩
  simp only at hi1 hi2 inv hm
  unfold cc7l3
  by_cases hil : i < o.length ∧ i < 5
  · obtain ⟨hil, hi30⟩ := hil
    have hg : o.getD i default = o[i] := by simp [hil]
    simp -implicitDefEqProofs (maxSteps := 500000) (disch := first | decide | omega) only [↓preS, ↓reduceIte, allS, Nat.reduceBEq, Nat.reduceAdd, Nat.reduceEqDiff, reduceIte, Int.reduceToNat, Int.reduceLE, Int.reduceLT, Nat.reduceLeDiff, Nat.reduceMul, Nat.reducePow, Nat.reduceLT, Int.reduceBEq, Int.reduceBNe, Int.reduceAdd, Int.reduceSub, Int.reduceMul, Int.reduceGT, Int.reduceGE, decS, Int.reduceNe, Int.reduceEq, askS, askT, hg, List.append_nil]
    refine ⟨by omega, by omega, ?_⟩
    refine acK_of (FCall.of (lent := false) (good_ok o[i]) (.refl rfl) rfl (by simp)) ?_
    have gx := gd_good o[i]
    generalize goodA o[i] = x at gx
    simp -implicitDefEqProofs (maxSteps := 500000) (disch := first | decide | omega) only [↓preS, ↓reduceIte, allS, Nat.reduceBEq, Nat.reduceAdd, Nat.reduceEqDiff, reduceIte, Int.reduceToNat, Int.reduceLE, Int.reduceLT, Nat.reduceLeDiff, Nat.reduceMul, Nat.reducePow, Nat.reduceLT, Int.reduceBEq, Int.reduceBNe, Int.reduceAdd, Int.reduceSub, Int.reduceMul, Int.reduceGT, Int.reduceGE, decS, Int.reduceNe, Int.reduceEq, askS, askT, hg, List.append_nil]
    refine acK_of (FCall.of (lent := false) (set_ok false l x (by omega)) (.refl rfl) rfl (by simp)) ?_
    have inv2 := inv_set inv gx
    have hlen : (setL x l).1.length ≤ i + 1 := by
      have := keep_le x.prio l
      rcases set_cases x l with ⟨e, _⟩ | ⟨_, e⟩ | ⟨_, _, e⟩ <;> rw [e] <;> simp [insL] <;> omega
    generalize hs : setL x l = s at inv2 hlen
    obtain ⟨b, e2⟩ := s
    simp only at inv2 hlen
    unfold setR
    simp -implicitDefEqProofs (maxSteps := 500000) (disch := first | decide | omega) only [↓preS, ↓reduceIte, allS, Nat.reduceBEq, Nat.reduceAdd, Nat.reduceEqDiff, reduceIte, Int.reduceToNat, Int.reduceLE, Int.reduceLT, Nat.reduceLeDiff, Nat.reduceMul, Nat.reducePow, Nat.reduceLT, Int.reduceBEq, Int.reduceBNe, Int.reduceAdd, Int.reduceSub, Int.reduceMul, Int.reduceGT, Int.reduceGE, decS, Int.reduceNe, Int.reduceEq, askS]
    refine ⟨(i + 1, b), ?_, ⟨by simp only; omega, by simp only; omega, inv2, hlen⟩, by simp only; omega⟩
    (refine Sub.ofL [some 0] rfl (by simp) (by decide) (by simp [partL, AO.ro, AV.ro, AV.roL, names, AO.empty, SB, U8, SI, I64, STR] <;> (try and_intros) <;> rfl) (by simp [AO.bo, AV.bo, AV.boL, names] <;> (try and_intros) <;> rfl) ?_ <;> (try simp only [List.map_cons, List.map_nil, regsL, AV.ro, AV.roL, AV.bo, AV.boL, names, get_here, get_there, Nat.reduceBEq, List.getD_cons_zero, List.getD_cons_succ, List.getD_nil, and_true, true_and, Nat.reduceLT, List.length_cons, List.length_nil, Nat.reduceAdd, decide_true, Option.isSome_some, Bool.true_or, Bool.and_self, Option.isSome_none, Bool.false_or, beq_self_eq_true, wk0_self, wk0_nils]) <;> (try and_intros) <;> (first | done | rfl | exact .inl rfl | exact .inr ⟨rfl, _, _, rfl⟩ | (simp; done) | (simp; omega) | (refine .inl ?_; simp; done) | (refine .inl ?_; simp; omega)))
  · have hor : ¬ i < o.length ∨ (i < o.length ∧ ¬ i < 5) := by omega
    clear hil
    rcases hor with h0 | h0 <;> (
    simp -implicitDefEqProofs (maxSteps := 500000) (disch := first | decide | omega) only [↓preS, ↓reduceIte, allS, Nat.reduceBEq, Nat.reduceAdd, Nat.reduceEqDiff, reduceIte, Int.reduceToNat, Int.reduceLE, Int.reduceLT, Nat.reduceLeDiff, Nat.reduceMul, Nat.reducePow, Nat.reduceLT, Int.reduceBEq, Int.reduceBNe, Int.reduceAdd, Int.reduceSub, Int.reduceMul, Int.reduceGT, Int.reduceGE, decS, Int.reduceNe, Int.reduceEq, askS]
    refine acK_of (FCall.of (lent := false) (set_ok false l a (by omega)) (.refl rfl) rfl (by simp)) ?_
    have inv2 := inv_set inv gd
    have e1 : (setL a l).2 = 0 := by
      rcases set_err (a := a) inv with e | ⟨_, h8⟩
      · exact e
      · omega
    generalize hs : setL a l = s at inv2 e1
    obtain ⟨b, e2⟩ := s
    simp only at inv2 e1
    subst e1
    have has := has_set (e := 0) hs
    clear hs
    unfold setR
    simp -implicitDefEqProofs (maxSteps := 500000) (disch := first | decide | omega) only [↓preS, ↓reduceIte, allS, Nat.reduceBEq, Nat.reduceAdd, Nat.reduceEqDiff, reduceIte, Int.reduceToNat, Int.reduceLE, Int.reduceLT, Nat.reduceLeDiff, Nat.reduceMul, Nat.reducePow, Nat.reduceLT, Int.reduceBEq, Int.reduceBNe, Int.reduceAdd, Int.reduceSub, Int.reduceMul, Int.reduceGT, Int.reduceGE, decS, Int.reduceNe, Int.reduceEq, askS]
    unfold cc7L2
    simp -implicitDefEqProofs (maxSteps := 500000) (disch := first | decide | omega) only [↓preS, ↓reduceIte, allS, Nat.reduceBEq, Nat.reduceAdd, Nat.reduceEqDiff, reduceIte, Int.reduceToNat, Int.reduceLE, Int.reduceLT, Nat.reduceLeDiff, Nat.reduceMul, Nat.reducePow, Nat.reduceLT, Int.reduceBEq, Int.reduceBNe, Int.reduceAdd, Int.reduceSub, Int.reduceMul, Int.reduceGT, Int.reduceGE, decS, Int.reduceNe, Int.reduceEq, askS]
    refine aw_loopS (σ := Nat × List Ask) (fun q => ⟨[(2, .int .i64 ms), (3, .ref 0 0 0), (7, .sl false 8 (q.2.map ASK)), (10, .int .i64 (q.1 : Int))], [.box (askC a)]⟩)
      (fun q => q.1 ≤ 5 ∧ Inv q.2 ∧ Has q.2 a a.count) (fun q => 5 - q.1) (0, b) ?_ ⟨by simp, inv2, has⟩ ?_
    · (refine Sub.ofL [some 0] rfl (by simp) (by decide) (by simp [partL, AO.ro, AV.ro, AV.roL, names, AO.empty, SB, U8, SI, I64, STR] <;> (try and_intros) <;> rfl) (by simp [AO.bo, AV.bo, AV.boL, names] <;> (try and_intros) <;> rfl) ?_ <;> (try simp only [List.map_cons, List.map_nil, regsL, AV.ro, AV.roL, AV.bo, AV.boL, names, get_here, get_there, Nat.reduceBEq, List.getD_cons_zero, List.getD_cons_succ, List.getD_nil, and_true, true_and, Nat.reduceLT, List.length_cons, List.length_nil, Nat.reduceAdd, decide_true, Option.isSome_some, Bool.true_or, Bool.and_self, Option.isSome_none, Bool.false_or, beq_self_eq_true, wk0_self, wk0_nils]) <;> (try and_intros) <;> (first | done | rfl | exact .inl rfl | exact .inr ⟨rfl, _, _, rfl⟩ | (simp; done) | (simp; omega) | (refine .inl ?_; simp; done) | (refine .inl ?_; simp; omega)))
    rintro ⟨k, m⟩ ⟨hk, im, hsm⟩
    simp only at hk im hsm
    clear has inv2 inv hm h0
    have hml := im.le
    unfold cc7l2
    simp -implicitDefEqProofs (maxSteps := 500000) (disch := first | decide | omega) only [↓preS, ↓reduceIte, allS, Nat.reduceBEq, Nat.reduceAdd, Nat.reduceEqDiff, reduceIte, Int.reduceToNat, Int.reduceLE, Int.reduceLT, Nat.reduceLeDiff, Nat.reduceMul, Nat.reducePow, Nat.reduceLT, Int.reduceBEq, Int.reduceBNe, Int.reduceAdd, Int.reduceSub, Int.reduceMul, Int.reduceGT, Int.reduceGE, decS, Int.reduceNe, Int.reduceEq]
    refine acK_of (FCall.of (lent := false) (within_ok ms 5 (by omega) (by omega)) (.refl rfl) rfl (by simp)) ?_
    have wr := win_rng ms 5 (by omega)
    generalize win ms 5 = w at wr
    by_cases hkw : (k : Int) < w
    · simp -implicitDefEqProofs (maxSteps := 500000) (disch := first | decide | omega) only [↓preS, ↓reduceIte, allS, Nat.reduceBEq, Nat.reduceAdd, Nat.reduceEqDiff, reduceIte, Int.reduceToNat, Int.reduceLE, Int.reduceLT, Nat.reduceLeDiff, Nat.reduceMul, Nat.reducePow, Nat.reduceLT, Int.reduceBEq, Int.reduceBNe, Int.reduceAdd, Int.reduceSub, Int.reduceMul, Int.reduceGT, Int.reduceGE, decS, Int.reduceNe, Int.reduceEq, askS]
      refine acK_of (FCall.of (lent := false) (miss_ok false a.prio m (by omega) (fun z hz => by have h := (im.gd z hz).1; have h1 := h.s0; have h2 := h.s9; omega)) (.refl rfl) rfl (by simp)) ?_
      rw [miss_eq im.so]
      simp -implicitDefEqProofs (maxSteps := 500000) (disch := first | decide | omega) only [↓preS, ↓reduceIte, allS, Nat.reduceBEq, Nat.reduceAdd, Nat.reduceEqDiff, reduceIte, Int.reduceToNat, Int.reduceLE, Int.reduceLT, Nat.reduceLeDiff, Nat.reduceMul, Nat.reducePow, Nat.reduceLT, Int.reduceBEq, Int.reduceBNe, Int.reduceAdd, Int.reduceSub, Int.reduceMul, Int.reduceGT, Int.reduceGE, decS, Int.reduceNe, Int.reduceEq, askS]
      refine ⟨(k + 1, xmissL a.prio m), ?_, ⟨by simp only; omega, inv_miss im _, has_miss _ hsm⟩, by simp only; omega⟩
      (refine Sub.ofL [some 0] rfl (by simp) (by decide) (by simp [partL, AO.ro, AV.ro, AV.roL, names, AO.empty, SB, U8, SI, I64, STR] <;> (try and_intros) <;> rfl) (by simp [AO.bo, AV.bo, AV.boL, names] <;> (try and_intros) <;> rfl) ?_ <;> (try simp only [List.map_cons, List.map_nil, regsL, AV.ro, AV.roL, AV.bo, AV.boL, names, get_here, get_there, Nat.reduceBEq, List.getD_cons_zero, List.getD_cons_succ, List.getD_nil, and_true, true_and, Nat.reduceLT, List.length_cons, List.length_nil, Nat.reduceAdd, decide_true, Option.isSome_some, Bool.true_or, Bool.and_self, Option.isSome_none, Bool.false_or, beq_self_eq_true, wk0_self, wk0_nils]) <;> (try and_intros) <;> (first | done | rfl | exact .inl rfl | exact .inr ⟨rfl, _, _, rfl⟩ | (simp; done) | (simp; omega) | (refine .inl ?_; simp; done) | (refine .inl ?_; simp; omega)))
    · simp -implicitDefEqProofs (maxSteps := 500000) (disch := first | decide | omega) only [↓preS, ↓reduceIte, allS, Nat.reduceBEq, Nat.reduceAdd, Nat.reduceEqDiff, reduceIte, Int.reduceToNat, Int.reduceLE, Int.reduceLT, Nat.reduceLeDiff, Nat.reduceMul, Nat.reducePow, Nat.reduceLT, Int.reduceBEq, Int.reduceBNe, Int.reduceAdd, Int.reduceSub, Int.reduceMul, Int.reduceGT, Int.reduceGE, decS, Int.reduceNe, Int.reduceEq, askS]
      unfold cc7L1
      simp -implicitDefEqProofs (maxSteps := 500000) (disch := first | decide | omega) only [↓preS, ↓reduceIte, allS, Nat.reduceBEq, Nat.reduceAdd, Nat.reduceEqDiff, reduceIte, Int.reduceToNat, Int.reduceLE, Int.reduceLT, Nat.reduceLeDiff, Nat.reduceMul, Nat.reducePow, Nat.reduceLT, Int.reduceBEq, Int.reduceBNe, Int.reduceAdd, Int.reduceSub, Int.reduceMul, Int.reduceGT, Int.reduceGE, decS, Int.reduceNe, Int.reduceEq, askS]
      have n0 := gd.n0
      have n5 := gd.n5
      refine aw_loopS (σ := Nat × List Ask) (fun q => ⟨[(3, .ref 0 0 0), (7, .sl false 8 (q.2.map ASK)), (11, .int .i64 (q.1 : Int))], [.box (askC a)]⟩)
        (fun q => (q.1 : Int) ≤ a.count ∧ Inv q.2 ∧ Has q.2 a (a.count - q.1)) (fun q => a.count.toNat - q.1) (0, m) ?_ ⟨by simp only; omega, im, by simpa using hsm⟩ ?_
      · (refine Sub.ofL [some 0] rfl (by simp) (by decide) (by simp [partL, AO.ro, AV.ro, AV.roL, names, AO.empty, SB, U8, SI, I64, STR] <;> (try and_intros) <;> rfl) (by simp [AO.bo, AV.bo, AV.boL, names] <;> (try and_intros) <;> rfl) ?_ <;> (try simp only [List.map_cons, List.map_nil, regsL, AV.ro, AV.roL, AV.bo, AV.boL, names, get_here, get_there, Nat.reduceBEq, List.getD_cons_zero, List.getD_cons_succ, List.getD_nil, and_true, true_and, Nat.reduceLT, List.length_cons, List.length_nil, Nat.reduceAdd, decide_true, Option.isSome_some, Bool.true_or, Bool.and_self, Option.isSome_none, Bool.false_or, beq_self_eq_true, wk0_self, wk0_nils]) <;> (try and_intros) <;> (first | done | rfl | exact .inl rfl | exact .inr ⟨rfl, _, _, rfl⟩ | (simp; done) | (simp; omega) | (refine .inl ?_; simp; done) | (refine .inl ?_; simp; omega)))
      rintro ⟨j, m2⟩ ⟨hj, im2, hs2⟩
      simp only at hj im2 hs2
      clear hsm im hml
      have hml := im2.le
      unfold cc7l1
      by_cases hjc : (j : Int) < a.count
      · have pt := pend_take im2 (by omega) hs2
        have i3 := inv_take im2 a.prio
        have h3 := has_take (by omega) hs2
        have mz := fun x hx hp => take_missed (p := a.prio) (l := m2) (x := x) hx hp
        have ex := hs2.ex (by omega)
        have r1 := pendL_rng a.label m2 im2.rng (by omega)
        have r2 := pendL_rng a.label _ i3.rng (by have := i3.le; omega)
        have hl3 := i3.le
        simp -implicitDefEqProofs (maxSteps := 500000) (disch := first | decide | omega) only [↓preS, ↓reduceIte, allS, Nat.reduceBEq, Nat.reduceAdd, Nat.reduceEqDiff, reduceIte, Int.reduceToNat, Int.reduceLE, Int.reduceLT, Nat.reduceLeDiff, Nat.reduceMul, Nat.reducePow, Nat.reduceLT, Int.reduceBEq, Int.reduceBNe, Int.reduceAdd, Int.reduceSub, Int.reduceMul, Int.reduceGT, Int.reduceGE, decS, Int.reduceNe, Int.reduceEq, askS]
        refine acK_of (FCall.of (lent := false) (pend_ok false a.label m2 (by omega) im2.rng) (.refl rfl) rfl (by simp)) ?_
        unfold VEC
        simp -implicitDefEqProofs (maxSteps := 500000) (disch := first | decide | omega) only [↓preS, ↓reduceIte, allS, Nat.reduceBEq, Nat.reduceAdd, Nat.reduceEqDiff, reduceIte, Int.reduceToNat, Int.reduceLE, Int.reduceLT, Nat.reduceLeDiff, Nat.reduceMul, Nat.reducePow, Nat.reduceLT, Int.reduceBEq, Int.reduceBNe, Int.reduceAdd, Int.reduceSub, Int.reduceMul, Int.reduceGT, Int.reduceGE, decS, Int.reduceNe, Int.reduceEq, askS, List.append_nil]
        refine acK_of (FCall.of (lent := false) (take_ok false a.prio m2 (by omega) (fun z hz => by have h := (im2.gd z hz).1; have h1 := h.n0; have h2 := h.n5; omega)) (.refl rfl) rfl (by simp)) ?_
        rw [take_eq im2.so]
        have e : xtakeL a.prio m2 = ((xtakeL a.prio m2).1, true) := by
          show (_, m2.any _) = _
          rw [ex]; rfl
        rw [e]
        generalize (xtakeL a.prio m2).1 = m3 at *
        unfold takeR
        simp -implicitDefEqProofs (maxSteps := 500000) (disch := first | decide | omega) only [↓preS, ↓reduceIte, allS, Nat.reduceBEq, Nat.reduceAdd, Nat.reduceEqDiff, reduceIte, Int.reduceToNat, Int.reduceLE, Int.reduceLT, Nat.reduceLeDiff, Nat.reduceMul, Nat.reducePow, Nat.reduceLT, Int.reduceBEq, Int.reduceBNe, Int.reduceAdd, Int.reduceSub, Int.reduceMul, Int.reduceGT, Int.reduceGE, decS, Int.reduceNe, Int.reduceEq, askS]
        refine acK_of (FCall.of (lent := false) (pend_ok false a.label m3 (by omega) i3.rng) (.refl rfl) rfl (by simp)) ?_
        unfold VEC
        simp -implicitDefEqProofs (maxSteps := 500000) (disch := first | decide | omega) only [↓preS, ↓reduceIte, allS, Nat.reduceBEq, Nat.reduceAdd, Nat.reduceEqDiff, reduceIte, Int.reduceToNat, Int.reduceLE, Int.reduceLT, Nat.reduceLeDiff, Nat.reduceMul, Nat.reducePow, Nat.reduceLT, Int.reduceBEq, Int.reduceBNe, Int.reduceAdd, Int.reduceSub, Int.reduceMul, Int.reduceGT, Int.reduceGE, decS, Int.reduceNe, Int.reduceEq, askS, List.append_nil]
        unfold cc7L0
        simp -implicitDefEqProofs (maxSteps := 500000) (disch := first | decide | omega) only [↓preS, ↓reduceIte, allS, Nat.reduceBEq, Nat.reduceAdd, Nat.reduceEqDiff, reduceIte, Int.reduceToNat, Int.reduceLE, Int.reduceLT, Nat.reduceLeDiff, Nat.reduceMul, Nat.reducePow, Nat.reduceLT, Int.reduceBEq, Int.reduceBNe, Int.reduceAdd, Int.reduceSub, Int.reduceMul, Int.reduceGT, Int.reduceGE, decS, Int.reduceNe, Int.reduceEq]
        refine aw_loopS (σ := Nat) (fun i => ⟨[(3, .ref 0 0 0), (11, .int .i64 (j : Int)), (13, .sl false 8 (m3.map ASK)), (16, .int .i64 (i : Int))], [.box (askC a)]⟩) (fun i => i ≤ m3.length) (fun i => m3.length - i) 0 ?_ (by omega) ?_
        · (refine Sub.ofL [some 0] rfl (by simp) (by decide) (by simp [partL, AO.ro, AV.ro, AV.roL, names, AO.empty, SB, U8, SI, I64, STR] <;> (try and_intros) <;> rfl) (by simp [AO.bo, AV.bo, AV.boL, names] <;> (try and_intros) <;> rfl) ?_ <;> (try simp only [List.map_cons, List.map_nil, regsL, AV.ro, AV.roL, AV.bo, AV.boL, names, get_here, get_there, Nat.reduceBEq, List.getD_cons_zero, List.getD_cons_succ, List.getD_nil, and_true, true_and, Nat.reduceLT, List.length_cons, List.length_nil, Nat.reduceAdd, decide_true, Option.isSome_some, Bool.true_or, Bool.and_self, Option.isSome_none, Bool.false_or, beq_self_eq_true, wk0_self, wk0_nils]) <;> (try and_intros) <;> (first | done | rfl | exact .inl rfl | exact .inr ⟨rfl, _, _, rfl⟩ | (simp; done) | (simp; omega) | (refine .inl ?_; simp; done) | (refine .inl ?_; simp; omega)))
        intro i hi
        unfold cc7l0
        by_cases hil : i < m3.length
        · have hg : m3.getD i default = m3[i] := by simp [hil]
          by_cases hp : m3[i].prio = a.prio
          · have hz := mz m3[i] (List.getElem_mem hil) hp
            simp -implicitDefEqProofs (maxSteps := 500000) (disch := first | decide | omega) only [↓preS, ↓reduceIte, allS, Nat.reduceBEq, Nat.reduceAdd, Nat.reduceEqDiff, reduceIte, Int.reduceToNat, Int.reduceLE, Int.reduceLT, Nat.reduceLeDiff, Nat.reduceMul, Nat.reducePow, Nat.reduceLT, Int.reduceBEq, Int.reduceBNe, Int.reduceAdd, Int.reduceSub, Int.reduceMul, Int.reduceGT, Int.reduceGE, decS, Int.reduceNe, Int.reduceEq, askS, askT, askD, hg]
            exact ⟨by omega, by omega, by omega, by omega, i + 1, .inl rfl, by omega, by omega⟩
          · simp -implicitDefEqProofs (maxSteps := 500000) (disch := first | decide | omega) only [↓preS, ↓reduceIte, allS, Nat.reduceBEq, Nat.reduceAdd, Nat.reduceEqDiff, reduceIte, Int.reduceToNat, Int.reduceLE, Int.reduceLT, Nat.reduceLeDiff, Nat.reduceMul, Nat.reducePow, Nat.reduceLT, Int.reduceBEq, Int.reduceBNe, Int.reduceAdd, Int.reduceSub, Int.reduceMul, Int.reduceGT, Int.reduceGE, decS, Int.reduceNe, Int.reduceEq, askS, askT, askD, hg]
            exact ⟨by omega, by omega, i + 1, .inl rfl, by omega, by omega⟩
        · simp -implicitDefEqProofs (maxSteps := 500000) (disch := first | decide | omega) only [↓preS, ↓reduceIte, allS, Nat.reduceBEq, Nat.reduceAdd, Nat.reduceEqDiff, reduceIte, Int.reduceToNat, Int.reduceLE, Int.reduceLT, Nat.reduceLeDiff, Nat.reduceMul, Nat.reducePow, Nat.reduceLT, Int.reduceBEq, Int.reduceBNe, Int.reduceAdd, Int.reduceSub, Int.reduceMul, Int.reduceGT, Int.reduceGE, decS, Int.reduceNe, Int.reduceEq]
          refine ⟨(j + 1, m3), ?_, ⟨by simp only; omega, i3, ?_⟩, by simp only; omega⟩
          · (refine Sub.ofL [some 0] rfl (by simp) (by decide) (by simp [partL, AO.ro, AV.ro, AV.roL, names, AO.empty, SB, U8, SI, I64, STR] <;> (try and_intros) <;> rfl) (by simp [AO.bo, AV.bo, AV.boL, names] <;> (try and_intros) <;> rfl) ?_ <;> (try simp only [List.map_cons, List.map_nil, regsL, AV.ro, AV.roL, AV.bo, AV.boL, names, get_here, get_there, Nat.reduceBEq, List.getD_cons_zero, List.getD_cons_succ, List.getD_nil, and_true, true_and, Nat.reduceLT, List.length_cons, List.length_nil, Nat.reduceAdd, decide_true, Option.isSome_some, Bool.true_or, Bool.and_self, Option.isSome_none, Bool.false_or, beq_self_eq_true, wk0_self, wk0_nils]) <;> (try and_intros) <;> (first | done | rfl | exact .inl rfl | exact .inr ⟨rfl, _, _, rfl⟩ | (simp; done) | (simp; omega) | (refine .inl ?_; simp; done) | (refine .inl ?_; simp; omega)))
          · have e : a.count - ((j + 1 : Nat) : Int) = a.count - j - 1 := by omega
            simp only
            rw [e]
            exact h3
      · have hj2 : (j : Int) = a.count := by omega
        rw [hj2, Int.sub_self] at hs2
        simp -implicitDefEqProofs (maxSteps := 500000) (disch := first | decide | omega) only [↓preS, ↓reduceIte, allS, Nat.reduceBEq, Nat.reduceAdd, Nat.reduceEqDiff, reduceIte, Int.reduceToNat, Int.reduceLE, Int.reduceLT, Nat.reduceLeDiff, Nat.reduceMul, Nat.reducePow, Nat.reduceLT, Int.reduceBEq, Int.reduceBNe, Int.reduceAdd, Int.reduceSub, Int.reduceMul, Int.reduceGT, Int.reduceGE, decS, Int.reduceNe, Int.reduceEq, askS]
        refine acK_of (FCall.of (lent := false) (take_ok false a.prio m2 (by omega) (fun z hz => by have h := (im2.gd z hz).1; have h1 := h.n0; have h2 := h.n5; omega)) (.refl rfl) rfl (by simp)) ?_
        rw [take_eq im2.so, take_end im2 hs2]
        unfold takeR
        simp -implicitDefEqProofs (maxSteps := 500000) (disch := first | decide | omega) only [↓preS, ↓reduceIte, allS, Nat.reduceBEq, Nat.reduceAdd, Nat.reduceEqDiff, reduceIte, Int.reduceToNat, Int.reduceLE, Int.reduceLT, Nat.reduceLeDiff, Nat.reduceMul, Nat.reducePow, Nat.reduceLT, Int.reduceBEq, Int.reduceBNe, Int.reduceAdd, Int.reduceSub, Int.reduceMul, Int.reduceGT, Int.reduceGE, decS, Int.reduceNe, Int.reduceEq, askS]
        refine acK_of (FCall.of (lent := false) (same_ok false false m2 m2 (by omega)) (.refl rfl) rfl (by simp)) ?_
        simp -implicitDefEqProofs (maxSteps := 500000) (disch := first | decide | omega) only [↓preS, ↓reduceIte, allS, Nat.reduceBEq, Nat.reduceAdd, Nat.reduceEqDiff, reduceIte, Int.reduceToNat, Int.reduceLE, Int.reduceLT, Nat.reduceLeDiff, Nat.reduceMul, Nat.reducePow, Nat.reduceLT, Int.reduceBEq, Int.reduceBNe, Int.reduceAdd, Int.reduceSub, Int.reduceMul, Int.reduceGT, Int.reduceGE, decS, Int.reduceNe, Int.reduceEq, beq_self_eq_true])
end Go.Proofs.Ytglimfdofgadjaa
