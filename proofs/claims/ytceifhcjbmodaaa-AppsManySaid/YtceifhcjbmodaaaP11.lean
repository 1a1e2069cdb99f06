/- What functions of the program compute. No condition. -/
import Derived.Test.YtceifhcjbmodaaaP10
set_option linter.unusedSimpArgs false
set_option linter.unusedVariables false
namespace Go.Proofs.Ytceifhcjbmodaaa
open Go Go.Ab

/-! ### Silent -/
abbrev Cnt := List (Int × Int)
def esA (es : Cnt) : List (AV × AV) := es.map fun q => (.int .i64 q.1, .int .i64 q.2)
theorem roE_es {ρ : Nat → Option Nat} : ∀ es : Cnt, roE ρ (esA es) = esA es
  | [] => rfl
  | x :: es => by
    have := roE_es (ρ := ρ) es
    unfold esA at this ⊢
    rw [List.map_cons, roE, this]
    rfl
theorem boE_es {ρ : Nat → Option Nat} {n : Nat} : ∀ es : Cnt, boE ρ n (esA es) = true
  | [] => rfl
  | x :: es => by
    have := boE_es (ρ := ρ) (n := n) es
    unfold esA at this ⊢
    rw [List.map_cons, boE, this]
    rfl
attribute [simp] roE_es boE_es
def posE (p : Int) (es : Cnt) : Option Nat := es.findIdx? fun q => q.1 == p
theorem findM_es (p : Int) : ∀ es : Cnt, findM (.int .i64 p) (esA es) = some ((posE p es).map fun i => (i, .int .i64 (es.getD i (0, 0)).2))
  | [] => rfl
  | x :: es => by
    have ih := findM_es p es
    unfold esA at ih ⊢
    unfold posE at ih ⊢
    rw [List.map_cons]
    unfold findM
    rw [List.findIdx?_cons]
    by_cases h : p = x.1
    · subst h
      simp [eqS]
    · have h1 : eqS (.int .i64 p) (.int .i64 x.1) = some false := by simp [eqS, h]
      have h2 : (x.1 == p) = false := by rw [beq_eq_false_iff_ne]; exact fun e => h e.symm
      rw [h1, h2, ih]
      simp only [Bool.false_eq_true, if_false]
      cases List.findIdx? (fun q => q.1 == p) es <;> simp
def incE (p : Int) (es : Cnt) : Cnt := match posE p es with
  | some i => es.set i (p, (es.getD i (0, 0)).2 + 1)
  | none => es ++ [(p, 1)]
def cntE (p : Int) (es : Cnt) : Int := match posE p es with
  | some i => (es.getD i (0, 0)).2
  | none => 0
theorem upd_es (p : Int) (es : Cnt) (id : Nat) (H : List AO) (K : AV → List AO → Prop) : updF id (.int .i64 p) (.int .i64 (cntE p es + 1)) (esA es) (findM (.int .i64 p) (esA es)) H K = K (.tup []) (H.set id (.mapo (esA (incE p es)))) := by
  rw [findM_es]
  unfold incE cntE
  cases h : posE p es with
  | none => simp [updF, bindH, esA]
  | some i =>
    have hi : i < es.length := by
      unfold posE at h
      rw [List.findIdx?_eq_some_iff_getElem] at h
      exact h.1
    have hp : (es.getD i (0, 0)).1 = p := by
      unfold posE at h
      rw [List.findIdx?_eq_some_iff_getElem] at h
      have := h.2.1
      simpa [List.getD_eq_getElem?_getD, hi] using this
    simp only [Option.map_some, updF, bindH]
    have e : (esA es).set i (((esA es).getD i (.top, .top)).1, .int .i64 ((es.getD i (0, 0)).2 + 1)) = esA (es.set i (p, (es.getD i (0, 0)).2 + 1)) := by
      unfold esA
      rw [List.map_set]
      congr 2
      rw [← hp]
      simp [List.getD_eq_getElem?_getD, hi]
    rw [e]
theorem lkp_es (p : Int) (es : Cnt) (K : AV → Prop) : lkpF false (.int .i64 0) (findM (.int .i64 p) (esA es)) K = K (.int .i64 (cntE p es)) := by
  rw [findM_es]
  unfold cntE
  cases posE p es <;> rfl
theorem inc_new {es : Cnt} {p : Int} (h : posE p es = none) : cntE p es = 0 ∧ incE p es = es ++ [(p, 1)] := by
  unfold cntE incE
  rw [h]
  exact ⟨rfl, rfl⟩
theorem cnt_snoc {es : Cnt} {p : Int} (h : posE p es = none) : cntE p (es ++ [(p, 1)]) = 1 := by
  have : posE p (es ++ [(p, 1)]) = some es.length := by
    unfold posE at h ⊢
    rw [List.findIdx?_append, h]
    simp
  unfold cntE
  rw [this]
  simp
def silP (now : Int) (a : App) : Bool := a.state == 2 && decide (now - a.seen ≥ 15)
/-- Ids are apart. -/
def Apart (l : List App) : Prop := (l.map App.id).Nodup
set_option maxRecDepth 20000 in
set_option maxHeartbeats 16000000 in
theorem sil_ok (b : Fl) (s : Sta) (hl : s.apps.length ≤ 2 ^ 40) (hu : Apart s.apps) (hn : 0 ≤ s.now ∧ s.now < 2 ^ 62) (hs : ∀ x ∈ s.apps, -2 ^ 62 < x.seen ∧ x.seen < 2 ^ 62) : PCall Try.prog 8 [.agg (stC b s)] (.sl false 1 (((s.apps.filter (silP s.now)).map App.id).map I64)) := by
  refine PCall.wk3 (acall_of is8 (by simp) ?_)
  obtain ⟨ls, qs, nodes, apps, conts, slots, plans, now, ep, sq⟩ := s
  simp only at hl hu hn hs
  unfold cc8 stC
  simp -implicitDefEqProofs (maxSteps := 500000) (disch := first | decide | omega) only [↓preS, ↓reduceIte, allS, Nat.reduceBEq, Nat.reduceAdd, Nat.reduceEqDiff, reduceIte, Int.reduceToNat, Int.reduceLE, Int.reduceLT, Nat.reduceLeDiff, Nat.reduceMul, Nat.reducePow, Nat.reduceLT, Int.reduceBEq, Int.reduceBNe, Int.reduceAdd, Int.reduceSub, Int.reduceMul, Int.reduceGT, Int.reduceGE, decS, Int.reduceNe, Int.reduceEq]
  unfold cc8L0
  simp -implicitDefEqProofs (maxSteps := 500000) (disch := first | decide | omega) only [↓preS, ↓reduceIte, allS, Nat.reduceBEq, Nat.reduceAdd, Nat.reduceEqDiff, reduceIte, Int.reduceToNat, Int.reduceLE, Int.reduceLT, Nat.reduceLeDiff, Nat.reduceMul, Nat.reducePow, Nat.reduceLT, Int.reduceBEq, Int.reduceBNe, Int.reduceAdd, Int.reduceSub, Int.reduceMul, Int.reduceGT, Int.reduceGE, decS, Int.reduceNe, Int.reduceEq]
  refine aw_loopS (σ := Nat) (fun i => ⟨[(1, .ref 0 0 0), (3, .mp 1), (4, .own 2 1 0 ((apps.take i).filter (silP now)).length), (9, .sl b.a 14 (apps.map APP)), (10, .int .i64 (apps.length : Int)), (11, .int .i64 (i : Int))], [.box [.sl b.l 1 (ls.map .str), .sl b.q 3 (qs.map QUE), .sl b.n 8 (nodes.map NODE), .sl b.a 14 (apps.map APP), .sl b.c 9 (conts.map CONT), .sl b.s 3 (slots.map SLOT), .sl b.p 6 (plans.map PLAN), .int .i64 now, .int .i64 ep, .int .i64 sq], .mapo (esA ((apps.take i).map fun a => (a.id, 1))), .arr 1 ((((apps.take i).filter (silP now)).map App.id).map I64)]⟩)
    (fun i => i ≤ apps.length) (fun i => apps.length - i) 0 ?_ (by omega) ?_
  · simp only [List.take_zero, List.filter_nil, List.length_nil, List.map_nil]
    (refine Sub.ofL [some 0, some 1, none] rfl (by simp) (by decide) (by simp [partL, AO.ro, AV.ro, AV.roL, names, AO.empty, SB, U8, SI, I64, STR] <;> (try and_intros) <;> rfl) (by simp [AO.bo, AV.bo, AV.boL, names] <;> (try and_intros) <;> rfl) ?_ <;> (try simp only [List.map_cons, List.map_nil, regsL, AV.ro, AV.roL, AV.bo, AV.boL, names, get_here, get_there, Nat.reduceBEq, List.getD_cons_zero, List.getD_cons_succ, List.getD_nil, and_true, true_and, Nat.reduceLT, List.length_cons, List.length_nil, Nat.reduceAdd, decide_true, Option.isSome_some, Bool.true_or, Bool.and_self, Option.isSome_none, Bool.false_or, beq_self_eq_true, wk0_self, wk0_nils]) <;> (try and_intros) <;> (first | done | rfl | exact .inl rfl | exact .inr ⟨rfl, _, _, rfl⟩ | (simp; done) | (simp; omega) | (refine .inl ?_; simp; done) | (refine .inl ?_; simp; omega)))
  intro i hii
  unfold cc8l0
  have hlen : ((apps.take i).filter (silP now)).length ≤ i := Nat.le_trans (List.length_filter_le _ _) (by simp; omega)
  by_cases hil : i < apps.length
  · have hg : apps.getD i default = apps[i] := by simp [hil]
    have hx := hs _ (List.getElem_mem hil)
    have e1 : (apps.take (i + 1)).filter (silP now) = (apps.take i).filter (silP now) ++ (if silP now apps[i] then [apps[i]] else []) := by
      rw [List.take_succ_eq_append_getElem hil, List.filter_append]
      congr 1
      simp [List.filter_cons]
    have e2 : (apps.take (i + 1)).map (fun a => (a.id, (1 : Int))) = (apps.take i).map (fun a => (a.id, (1 : Int))) ++ [(apps[i].id, 1)] := by
      rw [List.take_succ_eq_append_getElem hil, List.map_append]
      rfl
    have hp : posE apps[i].id ((apps.take i).map fun a => (a.id, (1 : Int))) = none := by
      unfold posE
      rw [List.findIdx?_eq_none_iff]
      intro q hq
      obtain ⟨x, hx, rfl⟩ := List.mem_map.1 hq
      rw [beq_eq_false_iff_ne]
      intro e
      obtain ⟨j, hj, rfl⟩ := List.getElem_of_mem hx
      have hji : j < i := by simp at hj; omega
      have := List.pairwise_iff_getElem.1 hu j i (by simp; omega) (by simpa using hil) hji
      simp at this e
      exact this e
    obtain ⟨hc0, hinc⟩ := inc_new hp
    have hc1 := cnt_snoc hp
    rw [← hinc] at e2 hc1
    generalize (apps.take i).map (fun a => (a.id, (1 : Int))) = es at e2 hc0 hc1
    generalize apps[i] = a at hg hx e1 e2 hc0 hc1
    have fin1 : silP now a = true → a.state = 2 ∧ now - a.seen ≥ 15 := fun h => by simpa [silP] using h
    cases hpp : silP now a
    · rw [hpp] at e1
      simp only [Bool.false_eq_true, if_false, List.append_nil] at e1
      by_cases hu : a.state = 2
      · have hd : ¬ (now - a.seen ≥ 15) := by simpa [silP, hu] using hpp
        simp -implicitDefEqProofs (maxSteps := 500000) (disch := first | decide | omega) only [↓preS, ↓reduceIte, allS, Nat.reduceBEq, Nat.reduceAdd, Nat.reduceEqDiff, reduceIte, Int.reduceToNat, Int.reduceLE, Int.reduceLT, Nat.reduceLeDiff, Nat.reduceMul, Nat.reducePow, Nat.reduceLT, Int.reduceBEq, Int.reduceBNe, Int.reduceAdd, Int.reduceSub, Int.reduceMul, Int.reduceGT, Int.reduceGE, decS, Int.reduceNe, Int.reduceEq, appS, appD, hg, keyOk.eq_1, lkp_es, upd_es, List.append_nil]
        refine ⟨by omega, by omega, rfl, rfl, rfl, i + 1, ?_, by omega, by omega⟩
        rw [e1, e2]
        (refine Sub.ofL [some 0, some 1, some 2] rfl (by simp) (by decide) (by simp [partL, AO.ro, AV.ro, AV.roL, names, AO.empty, SB, U8, SI, I64, STR] <;> (try and_intros) <;> rfl) (by simp [AO.bo, AV.bo, AV.boL, names] <;> (try and_intros) <;> rfl) ?_ <;> (try simp only [List.map_cons, List.map_nil, regsL, AV.ro, AV.roL, AV.bo, AV.boL, names, get_here, get_there, Nat.reduceBEq, List.getD_cons_zero, List.getD_cons_succ, List.getD_nil, and_true, true_and, Nat.reduceLT, List.length_cons, List.length_nil, Nat.reduceAdd, decide_true, Option.isSome_some, Bool.true_or, Bool.and_self, Option.isSome_none, Bool.false_or, beq_self_eq_true, wk0_self, wk0_nils]) <;> (try and_intros) <;> (first | done | rfl | exact .inl rfl | exact .inr ⟨rfl, _, _, rfl⟩ | (simp; done) | (simp; omega) | (refine .inl ?_; simp; done) | (refine .inl ?_; simp; omega)))
      · simp -implicitDefEqProofs (maxSteps := 500000) (disch := first | decide | omega) only [↓preS, ↓reduceIte, allS, Nat.reduceBEq, Nat.reduceAdd, Nat.reduceEqDiff, reduceIte, Int.reduceToNat, Int.reduceLE, Int.reduceLT, Nat.reduceLeDiff, Nat.reduceMul, Nat.reducePow, Nat.reduceLT, Int.reduceBEq, Int.reduceBNe, Int.reduceAdd, Int.reduceSub, Int.reduceMul, Int.reduceGT, Int.reduceGE, decS, Int.reduceNe, Int.reduceEq, appS, appD, hg, keyOk.eq_1, lkp_es, upd_es, List.append_nil]
        refine ⟨by omega, by omega, rfl, rfl, i + 1, ?_, by omega, by omega⟩
        rw [e1, e2]
        (refine Sub.ofL [some 0, some 1, some 2] rfl (by simp) (by decide) (by simp [partL, AO.ro, AV.ro, AV.roL, names, AO.empty, SB, U8, SI, I64, STR] <;> (try and_intros) <;> rfl) (by simp [AO.bo, AV.bo, AV.boL, names] <;> (try and_intros) <;> rfl) ?_ <;> (try simp only [List.map_cons, List.map_nil, regsL, AV.ro, AV.roL, AV.bo, AV.boL, names, get_here, get_there, Nat.reduceBEq, List.getD_cons_zero, List.getD_cons_succ, List.getD_nil, and_true, true_and, Nat.reduceLT, List.length_cons, List.length_nil, Nat.reduceAdd, decide_true, Option.isSome_some, Bool.true_or, Bool.and_self, Option.isSome_none, Bool.false_or, beq_self_eq_true, wk0_self, wk0_nils]) <;> (try and_intros) <;> (first | done | rfl | exact .inl rfl | exact .inr ⟨rfl, _, _, rfl⟩ | (simp; done) | (simp; omega) | (refine .inl ?_; simp; done) | (refine .inl ?_; simp; omega)))
    · rw [hpp] at e1
      simp only [if_true] at e1
      obtain ⟨hu, hd⟩ := fin1 hpp
      simp -implicitDefEqProofs (maxSteps := 500000) (disch := first | decide | omega) only [↓preS, ↓reduceIte, allS, Nat.reduceBEq, Nat.reduceAdd, Nat.reduceEqDiff, reduceIte, Int.reduceToNat, Int.reduceLE, Int.reduceLT, Nat.reduceLeDiff, Nat.reduceMul, Nat.reducePow, Nat.reduceLT, Int.reduceBEq, Int.reduceBNe, Int.reduceAdd, Int.reduceSub, Int.reduceMul, Int.reduceGT, Int.reduceGE, decS, Int.reduceNe, Int.reduceEq, appS, appD, hg, keyOk.eq_1, lkp_es, upd_es, List.append_nil]
      refine ⟨by omega, by omega, rfl, rfl, rfl, ⟨by omega, by omega⟩, i + 1, ?_, by omega, by omega⟩
      rw [e1, e2]
      simp only [List.map_append, List.map_cons, List.map_nil, List.length_append, List.length_cons, List.length_nil]
      (refine Sub.ofL [some 0, some 1, some 5] rfl (by simp) (by decide) (by simp [partL, AO.ro, AV.ro, AV.roL, names, AO.empty, SB, U8, SI, I64, STR] <;> (try and_intros) <;> rfl) (by simp [AO.bo, AV.bo, AV.boL, names] <;> (try and_intros) <;> rfl) ?_ <;> (try simp only [List.map_cons, List.map_nil, regsL, AV.ro, AV.roL, AV.bo, AV.boL, names, get_here, get_there, Nat.reduceBEq, List.getD_cons_zero, List.getD_cons_succ, List.getD_nil, and_true, true_and, Nat.reduceLT, List.length_cons, List.length_nil, Nat.reduceAdd, decide_true, Option.isSome_some, Bool.true_or, Bool.and_self, Option.isSome_none, Bool.false_or, beq_self_eq_true, wk0_self, wk0_nils]) <;> (try and_intros) <;> (first | done | rfl | exact .inl rfl | exact .inr ⟨rfl, _, _, rfl⟩ | (simp; done) | (simp; omega) | (refine .inl ?_; simp; done) | (refine .inl ?_; simp; omega)))
  · have : i = apps.length := by omega
    subst this
    rw [List.take_length]
    simp -implicitDefEqProofs (maxSteps := 500000) (disch := first | decide | omega) only [↓preS, ↓reduceIte, allS, Nat.reduceBEq, Nat.reduceAdd, Nat.reduceEqDiff, reduceIte, Int.reduceToNat, Int.reduceLE, Int.reduceLT, Nat.reduceLeDiff, Nat.reduceMul, Nat.reducePow, Nat.reduceLT, Int.reduceBEq, Int.reduceBNe, Int.reduceAdd, Int.reduceSub, Int.reduceMul, Int.reduceGT, Int.reduceGE, decS, Int.reduceNe, Int.reduceEq]
    exact .inl (.inl (.inl rfl))
end Go.Proofs.Ytceifhcjbmodaaa
