/- What functions of the program compute. No condition. -/
import Derived.Test.YtceifhcjbmodaaaP2
set_option linter.unusedSimpArgs false
set_option linter.unusedVariables false
namespace Go.Proofs.Ytceifhcjbmodaaa
open Go Go.Ab

/-! ### States -/
structure Sta where
  labels : List (List UInt8)
  qs : List Queue
  nodes : List Node
  apps : List App
  conts : List Cont
  slots : List Slot
  plans : List Plan
  now : Int
  ep : Int
  sq : Int
structure Fl where
  l : Bool
  q : Bool
  n : Bool
  a : Bool
  c : Bool
  s : Bool
  p : Bool
def stC (b : Fl) (s : Sta) : List AV := [.sl b.l 1 (s.labels.map .str), .sl b.q 3 (s.qs.map QUE), .sl b.n 8 (s.nodes.map NODE), .sl b.a 14 (s.apps.map APP), .sl b.c 9 (s.conts.map CONT), .sl b.s 3 (s.slots.map SLOT), .sl b.p 6 (s.plans.map PLAN), .int .i64 s.now, .int .i64 s.ep, .int .i64 s.sq]
def owC (s : Sta) (i j k m : Nat) : List AV := [.sl false 1 (s.labels.map .str), .own i 3 0 s.qs.length, .sl false 8 (s.nodes.map NODE), .own j 14 0 s.apps.length, .own k 9 0 s.conts.length, .own m 3 0 s.slots.length, .sl false 6 (s.plans.map PLAN), .int .i64 s.now, .int .i64 s.ep, .int .i64 s.sq]
structure AOk (a : App) : Prop where
  a1 : a.asks.length ≤ 2 ^ 36
  a2 : a.grants.length ≤ 2 ^ 36
  a3 : a.kills.length ≤ 2 ^ 36
  a4 : a.told.length ≤ 2 ^ 36
  a5 : a.lost.length ≤ 2 ^ 36
structure QOk (q : Queue) : Prop where
  path : q.path.length ≤ 2 ^ 36
  len : q.caps.length ≤ 2 ^ 36
structure SOk (s : Sta) : Prop where
  lL : s.labels.length ≤ 2 ^ 36
  qL : s.qs.length ≤ 2 ^ 36
  nL : s.nodes.length ≤ 2 ^ 36
  aL : s.apps.length ≤ 2 ^ 36
  cL : s.conts.length ≤ 2 ^ 36
  sL : s.slots.length ≤ 2 ^ 36
  pL : s.plans.length ≤ 2 ^ 36
  qq : ∀ q ∈ s.qs, QOk q
  aa : ∀ a ∈ s.apps, AOk a
def NL : List AV := [.nils, .nils, .nils, .nils, .nils, .nils, .nils, .int .i64 0, .int .i64 0, .int .i64 0]
set_option maxRecDepth 20000 in
set_option maxHeartbeats 16000000 in
theorem own_ok (b : Fl) (s : Sta) (h : SOk s) : ACall Try.prog 13 [.agg (stC b s)] [] fun y G => y = .agg (owC s 0 3 1 2) ∧ G = [.arr 3 (s.qs.map QUE), .arr 9 (s.conts.map CONT), .arr 3 (s.slots.map SLOT), .arr 14 (s.apps.map APP)] := by
  have key : ACall Try.prog 13 [.agg (stC b s)] [] fun y G => y = .agg (owC s 2 5 3 4) ∧ ∃ G1 G2, G = G1 :: G2 :: [.arr 3 (s.qs.map QUE), .arr 9 (s.conts.map CONT), .arr 3 (s.slots.map SLOT), .arr 14 (s.apps.map APP)] := by
    refine acallR_of isR13 (by simp) ?_
    obtain ⟨ls, qs, nodes, apps, conts, slots, plans, now, ep, sq⟩ := s
    obtain ⟨hl, hq, hn, ha, hc, hs, hp, hqq, haa⟩ := h
    simp only at hl hq hn ha hc hs hp hqq haa
    unfold cc13 stC
    simp -implicitDefEqProofs (maxSteps := 500000) (disch := first | decide | omega) only [↓preS, ↓reduceIte, allS, Nat.reduceBEq, Nat.reduceAdd, Nat.reduceEqDiff, reduceIte, Int.reduceToNat, Int.reduceLE, Int.reduceLT, Nat.reduceLeDiff, Nat.reduceMul, Nat.reducePow, Nat.reduceLT, Int.reduceBEq, Int.reduceBNe, Int.reduceAdd, Int.reduceSub, Int.reduceMul, Int.reduceGT, Int.reduceGE, decS, Int.reduceNe, Int.reduceEq]
    unfold cc13T9
    refine aw_cut (fun s' => s' = ⟨[(1, .ref 0 0 0), (2, .ref 1 0 0)], [.box [.sl false 1 (ls.map .str), .own 2 3 0 qs.length, .sl b.n 8 (nodes.map NODE), .sl b.a 14 (apps.map APP), .sl b.c 9 (conts.map CONT), .sl b.s 3 (slots.map SLOT), .sl b.p 6 (plans.map PLAN), .int .i64 now, .int .i64 ep, .int .i64 sq], .box NL, .arr 3 (qs.map QUE)]⟩) ?_ ?_
    · unfold NL
      simp -implicitDefEqProofs (maxSteps := 500000) (disch := first | decide | omega) only [↓preS, ↓reduceIte, allS, Nat.reduceBEq, Nat.reduceAdd, Nat.reduceEqDiff, reduceIte, Int.reduceToNat, Int.reduceLE, Int.reduceLT, Nat.reduceLeDiff, Nat.reduceMul, Nat.reducePow, Nat.reduceLT, Int.reduceBEq, Int.reduceBNe, Int.reduceAdd, Int.reduceSub, Int.reduceMul, Int.reduceGT, Int.reduceGE, decS, Int.reduceNe, Int.reduceEq]
      refine ⟨?_, ?_⟩ <;> (
      refine acK_of (FCall.of (lent := false) (cl25 b.l ls hl) (.refl rfl) rfl (by simp)) ?_
      simp -implicitDefEqProofs (maxSteps := 500000) (disch := first | decide | omega) only [↓preS, ↓reduceIte, allS, Nat.reduceBEq, Nat.reduceAdd, Nat.reduceEqDiff, reduceIte, Int.reduceToNat, Int.reduceLE, Int.reduceLT, Nat.reduceLeDiff, Nat.reduceMul, Nat.reducePow, Nat.reduceLT, Int.reduceBEq, Int.reduceBNe, Int.reduceAdd, Int.reduceSub, Int.reduceMul, Int.reduceGT, Int.reduceGE, decS, Int.reduceNe, Int.reduceEq]
      refine acK_new (cl26 b.q qs hq) rfl rfl ?_
      rintro y G ⟨rfl, rfl⟩
      simp -implicitDefEqProofs (maxSteps := 500000) (disch := first | decide | omega) only [↓preS, ↓reduceIte, allS, Nat.reduceBEq, Nat.reduceAdd, Nat.reduceEqDiff, reduceIte, Int.reduceToNat, Int.reduceLE, Int.reduceLT, Nat.reduceLeDiff, Nat.reduceMul, Nat.reducePow, Nat.reduceLT, Int.reduceBEq, Int.reduceBNe, Int.reduceAdd, Int.reduceSub, Int.reduceMul, Int.reduceGT, Int.reduceGE, decS, Int.reduceNe, Int.reduceEq, AV.ren, AO.ren, up])
    · rintro s' rfl
      simp -implicitDefEqProofs (maxSteps := 500000) (disch := first | decide | omega) only [↓preS, ↓reduceIte, allS, Nat.reduceBEq, Nat.reduceAdd, Nat.reduceEqDiff, reduceIte, Int.reduceToNat, Int.reduceLE, Int.reduceLT, Nat.reduceLeDiff, Nat.reduceMul, Nat.reducePow, Nat.reduceLT, Int.reduceBEq, Int.reduceBNe, Int.reduceAdd, Int.reduceSub, Int.reduceMul, Int.reduceGT, Int.reduceGE, decS, Int.reduceNe, Int.reduceEq]
      unfold cc13L1
      simp -implicitDefEqProofs (maxSteps := 500000) (disch := first | decide | omega) only [↓preS, ↓reduceIte, allS, Nat.reduceBEq, Nat.reduceAdd, Nat.reduceEqDiff, reduceIte, Int.reduceToNat, Int.reduceLE, Int.reduceLT, Nat.reduceLeDiff, Nat.reduceMul, Nat.reducePow, Nat.reduceLT, Int.reduceBEq, Int.reduceBNe, Int.reduceAdd, Int.reduceSub, Int.reduceMul, Int.reduceGT, Int.reduceGE, decS, Int.reduceNe, Int.reduceEq]
      refine aw_loopS (σ := Nat) (fun i => ⟨[(1, .ref 0 0 0), (2, .ref 1 0 0), (21, .own 2 3 0 qs.length), (22, .int .i64 (qs.length : Int)), (23, .int .i64 (i : Int))], [.box [.sl false 1 (ls.map .str), .own 2 3 0 qs.length, .sl b.n 8 (nodes.map NODE), .sl b.a 14 (apps.map APP), .sl b.c 9 (conts.map CONT), .sl b.s 3 (slots.map SLOT), .sl b.p 6 (plans.map PLAN), .int .i64 now, .int .i64 ep, .int .i64 sq], .box NL, .arr 3 (qs.map QUE)]⟩) (fun i => i ≤ qs.length) (fun i => qs.length - i) 0 (.inl rfl) (by omega) ?_
      intro i hi
      unfold cc13l1
      by_cases hil : i < qs.length
      · have hg : qs.getD i default = qs[i] := by simp [hil]
        have hx := hqq _ (List.getElem_mem hil)
        have hset : qs.set i { qs[i] with caps := qs[i].caps } = qs := List.set_getElem_self hil
        simp -implicitDefEqProofs (maxSteps := 500000) (disch := first | decide | omega) only [↓preS, ↓reduceIte, allS, Nat.reduceBEq, Nat.reduceAdd, Nat.reduceEqDiff, reduceIte, Int.reduceToNat, Int.reduceLE, Int.reduceLT, Nat.reduceLeDiff, Nat.reduceMul, Nat.reducePow, Nat.reduceLT, Int.reduceBEq, Int.reduceBNe, Int.reduceAdd, Int.reduceSub, Int.reduceMul, Int.reduceGT, Int.reduceGE, decS, Int.reduceNe, Int.reduceEq, queS, hg, List.append_nil]
        refine ⟨by omega, by omega, ?_⟩
        repeat' first
          | omega
          | (refine acK_of (FCall.of (lent := false) (cl27 false qs[i].caps hx.len) (.refl rfl) rfl (by simp)) ?_; simp -implicitDefEqProofs (maxSteps := 500000) (disch := first | decide | omega) only [↓preS, ↓reduceIte, allS, Nat.reduceBEq, Nat.reduceAdd, Nat.reduceEqDiff, reduceIte, Int.reduceToNat, Int.reduceLE, Int.reduceLT, Nat.reduceLeDiff, Nat.reduceMul, Nat.reducePow, Nat.reduceLT, Int.reduceBEq, Int.reduceBNe, Int.reduceAdd, Int.reduceSub, Int.reduceMul, Int.reduceGT, Int.reduceGE, decS, Int.reduceNe, Int.reduceEq, queS, hg, hset])
          | exact ⟨i + 1, (by (refine Sub.ofL [some 0, some 1, some 2] rfl (by simp) (by decide) (by simp [partL, AO.ro, AV.ro, AV.roL, names, AO.empty, SB, U8, SI, I64, STR] <;> (try and_intros) <;> rfl) (by simp [AO.bo, AV.bo, AV.boL, names] <;> (try and_intros) <;> rfl) ?_ <;> (try simp only [List.map_cons, List.map_nil, regsL, AV.ro, AV.roL, AV.bo, AV.boL, names, get_here, get_there, Nat.reduceBEq, List.getD_cons_zero, List.getD_cons_succ, List.getD_nil, and_true, true_and, Nat.reduceLT, List.length_cons, List.length_nil, Nat.reduceAdd, decide_true, Option.isSome_some, Bool.true_or, Bool.and_self, Option.isSome_none, Bool.false_or, beq_self_eq_true, wk0_self, wk0_nils]) <;> (try and_intros) <;> (first | done | rfl | exact .inl rfl | exact .inr ⟨rfl, _, _, rfl⟩ | (simp; done) | (simp; omega) | (refine .inl ?_; simp; done) | (refine .inl ?_; simp; omega)))), by omega, by omega⟩
          | apply And.intro
      · simp -implicitDefEqProofs (maxSteps := 500000) (disch := first | decide | omega) only [↓preS, ↓reduceIte, allS, Nat.reduceBEq, Nat.reduceAdd, Nat.reduceEqDiff, reduceIte, Int.reduceToNat, Int.reduceLE, Int.reduceLT, Nat.reduceLeDiff, Nat.reduceMul, Nat.reducePow, Nat.reduceLT, Int.reduceBEq, Int.reduceBNe, Int.reduceAdd, Int.reduceSub, Int.reduceMul, Int.reduceGT, Int.reduceGE, decS, Int.reduceNe, Int.reduceEq]
        unfold cc13T39
        refine aw_cut (fun s' => s' = ⟨[(1, .ref 0 0 0), (2, .ref 1 0 0)], [.box [.sl false 1 (ls.map .str), .own 2 3 0 qs.length, .sl false 8 (nodes.map NODE), .sl b.a 14 (apps.map APP), .own 3 9 0 conts.length, .own 4 3 0 slots.length, .sl false 6 (plans.map PLAN), .int .i64 now, .int .i64 ep, .int .i64 sq], .box NL, .arr 3 (qs.map QUE), .arr 9 (conts.map CONT), .arr 3 (slots.map SLOT)]⟩) ?_ ?_
        · simp -implicitDefEqProofs (maxSteps := 500000) (disch := first | decide | omega) only [↓preS, ↓reduceIte, allS, Nat.reduceBEq, Nat.reduceAdd, Nat.reduceEqDiff, reduceIte, Int.reduceToNat, Int.reduceLE, Int.reduceLT, Nat.reduceLeDiff, Nat.reduceMul, Nat.reducePow, Nat.reduceLT, Int.reduceBEq, Int.reduceBNe, Int.reduceAdd, Int.reduceSub, Int.reduceMul, Int.reduceGT, Int.reduceGE, decS, Int.reduceNe, Int.reduceEq]
          repeat' first
            | (refine acK_of (FCall.of (lent := false) (cl28 b.n nodes hn) (.refl rfl) rfl (by simp)) ?_; simp -implicitDefEqProofs (maxSteps := 500000) (disch := first | decide | omega) only [↓preS, ↓reduceIte, allS, Nat.reduceBEq, Nat.reduceAdd, Nat.reduceEqDiff, reduceIte, Int.reduceToNat, Int.reduceLE, Int.reduceLT, Nat.reduceLeDiff, Nat.reduceMul, Nat.reducePow, Nat.reduceLT, Int.reduceBEq, Int.reduceBNe, Int.reduceAdd, Int.reduceSub, Int.reduceMul, Int.reduceGT, Int.reduceGE, decS, Int.reduceNe, Int.reduceEq])
            | (refine acK_of (FCall.of (lent := false) (cl31 b.p plans hp) (.refl rfl) rfl (by simp)) ?_; simp -implicitDefEqProofs (maxSteps := 500000) (disch := first | decide | omega) only [↓preS, ↓reduceIte, allS, Nat.reduceBEq, Nat.reduceAdd, Nat.reduceEqDiff, reduceIte, Int.reduceToNat, Int.reduceLE, Int.reduceLT, Nat.reduceLeDiff, Nat.reduceMul, Nat.reducePow, Nat.reduceLT, Int.reduceBEq, Int.reduceBNe, Int.reduceAdd, Int.reduceSub, Int.reduceMul, Int.reduceGT, Int.reduceGE, decS, Int.reduceNe, Int.reduceEq])
            | (refine acK_new (cl29 b.c conts hc) rfl rfl ?_; rintro y G ⟨rfl, rfl⟩; simp -implicitDefEqProofs (maxSteps := 500000) (disch := first | decide | omega) only [↓preS, ↓reduceIte, allS, Nat.reduceBEq, Nat.reduceAdd, Nat.reduceEqDiff, reduceIte, Int.reduceToNat, Int.reduceLE, Int.reduceLT, Nat.reduceLeDiff, Nat.reduceMul, Nat.reducePow, Nat.reduceLT, Int.reduceBEq, Int.reduceBNe, Int.reduceAdd, Int.reduceSub, Int.reduceMul, Int.reduceGT, Int.reduceGE, decS, Int.reduceNe, Int.reduceEq, AV.ren, AO.ren, up])
            | (refine acK_new (cl30 b.s slots hs) rfl rfl ?_; rintro y G ⟨rfl, rfl⟩; simp -implicitDefEqProofs (maxSteps := 500000) (disch := first | decide | omega) only [↓preS, ↓reduceIte, allS, Nat.reduceBEq, Nat.reduceAdd, Nat.reduceEqDiff, reduceIte, Int.reduceToNat, Int.reduceLE, Int.reduceLT, Nat.reduceLeDiff, Nat.reduceMul, Nat.reducePow, Nat.reduceLT, Int.reduceBEq, Int.reduceBNe, Int.reduceAdd, Int.reduceSub, Int.reduceMul, Int.reduceGT, Int.reduceGE, decS, Int.reduceNe, Int.reduceEq, AV.ren, AO.ren, up])
            | apply And.intro
        · rintro s' rfl
          unfold cc13T54
          simp -implicitDefEqProofs (maxSteps := 500000) (disch := first | decide | omega) only [↓preS, ↓reduceIte, allS, Nat.reduceBEq, Nat.reduceAdd, Nat.reduceEqDiff, reduceIte, Int.reduceToNat, Int.reduceLE, Int.reduceLT, Nat.reduceLeDiff, Nat.reduceMul, Nat.reducePow, Nat.reduceLT, Int.reduceBEq, Int.reduceBNe, Int.reduceAdd, Int.reduceSub, Int.reduceMul, Int.reduceGT, Int.reduceGE, decS, Int.reduceNe, Int.reduceEq]
          refine acK_new (cl32 b.a apps ha) rfl rfl ?_
          rintro y G ⟨rfl, rfl⟩
          simp -implicitDefEqProofs (maxSteps := 500000) (disch := first | decide | omega) only [↓preS, ↓reduceIte, allS, Nat.reduceBEq, Nat.reduceAdd, Nat.reduceEqDiff, reduceIte, Int.reduceToNat, Int.reduceLE, Int.reduceLT, Nat.reduceLeDiff, Nat.reduceMul, Nat.reducePow, Nat.reduceLT, Int.reduceBEq, Int.reduceBNe, Int.reduceAdd, Int.reduceSub, Int.reduceMul, Int.reduceGT, Int.reduceGE, decS, Int.reduceNe, Int.reduceEq, AV.ren, AO.ren, up]
          unfold cc13L0
          simp -implicitDefEqProofs (maxSteps := 500000) (disch := first | decide | omega) only [↓preS, ↓reduceIte, allS, Nat.reduceBEq, Nat.reduceAdd, Nat.reduceEqDiff, reduceIte, Int.reduceToNat, Int.reduceLE, Int.reduceLT, Nat.reduceLeDiff, Nat.reduceMul, Nat.reducePow, Nat.reduceLT, Int.reduceBEq, Int.reduceBNe, Int.reduceAdd, Int.reduceSub, Int.reduceMul, Int.reduceGT, Int.reduceGE, decS, Int.reduceNe, Int.reduceEq]
          refine aw_loopS (σ := Nat) (fun i => ⟨[(1, .ref 0 0 0), (2, .ref 1 0 0), (59, .own 5 14 0 apps.length), (60, .int .i64 (apps.length : Int)), (61, .int .i64 (i : Int))], [.box [.sl false 1 (ls.map .str), .own 2 3 0 qs.length, .sl false 8 (nodes.map NODE), .own 5 14 0 apps.length, .own 3 9 0 conts.length, .own 4 3 0 slots.length, .sl false 6 (plans.map PLAN), .int .i64 now, .int .i64 ep, .int .i64 sq], .box NL, .arr 3 (qs.map QUE), .arr 9 (conts.map CONT), .arr 3 (slots.map SLOT), .arr 14 (apps.map APP)]⟩) (fun i => i ≤ apps.length) (fun i => apps.length - i) 0 (.inl rfl) (by omega) ?_
          intro i hi
          unfold cc13l0
          by_cases hil : i < apps.length
          · have hg : apps.getD i default = apps[i] := by simp [hil]
            have hx := haa _ (List.getElem_mem hil)
            have hset : apps.set i apps[i] = apps := List.set_getElem_self hil
            have ca := appl_ok apps[i] hx.a1 hx.a2 hx.a3 hx.a4 hx.a5
            simp -implicitDefEqProofs (maxSteps := 500000) (disch := first | decide | omega) only [↓preS, ↓reduceIte, allS, Nat.reduceBEq, Nat.reduceAdd, Nat.reduceEqDiff, reduceIte, Int.reduceToNat, Int.reduceLE, Int.reduceLT, Nat.reduceLeDiff, Nat.reduceMul, Nat.reducePow, Nat.reduceLT, Int.reduceBEq, Int.reduceBNe, Int.reduceAdd, Int.reduceSub, Int.reduceMul, Int.reduceGT, Int.reduceGE, decS, Int.reduceNe, Int.reduceEq, appS, hg, List.append_nil]
            refine ⟨by omega, by omega, ?_⟩
            repeat' first
              | omega
              | (refine acK_of (FCall.of (lent := false) ca (.refl rfl) rfl (by simp)) ?_; simp -implicitDefEqProofs (maxSteps := 500000) (disch := first | decide | omega) only [↓preS, ↓reduceIte, allS, Nat.reduceBEq, Nat.reduceAdd, Nat.reduceEqDiff, reduceIte, Int.reduceToNat, Int.reduceLE, Int.reduceLT, Nat.reduceLeDiff, Nat.reduceMul, Nat.reducePow, Nat.reduceLT, Int.reduceBEq, Int.reduceBNe, Int.reduceAdd, Int.reduceSub, Int.reduceMul, Int.reduceGT, Int.reduceGE, decS, Int.reduceNe, Int.reduceEq, appS, hg, hset, List.append_nil])
              | exact ⟨i + 1, (by (refine Sub.ofL [some 0, some 1, some 2, some 3, some 4, some 5] rfl (by simp) (by decide) (by simp [partL, AO.ro, AV.ro, AV.roL, names, AO.empty, SB, U8, SI, I64, STR] <;> (try and_intros) <;> rfl) (by simp [AO.bo, AV.bo, AV.boL, names] <;> (try and_intros) <;> rfl) ?_ <;> (try simp only [List.map_cons, List.map_nil, regsL, AV.ro, AV.roL, AV.bo, AV.boL, names, get_here, get_there, Nat.reduceBEq, List.getD_cons_zero, List.getD_cons_succ, List.getD_nil, and_true, true_and, Nat.reduceLT, List.length_cons, List.length_nil, Nat.reduceAdd, decide_true, Option.isSome_some, Bool.true_or, Bool.and_self, Option.isSome_none, Bool.false_or, beq_self_eq_true, wk0_self, wk0_nils]) <;> (try and_intros) <;> (first | done | rfl | exact .inl rfl | exact .inr ⟨rfl, _, _, rfl⟩ | (simp; done) | (simp; omega) | (refine .inl ?_; simp; done) | (refine .inl ?_; simp; omega)))), by omega, by omega⟩
              | apply And.intro
          · simp -implicitDefEqProofs (maxSteps := 500000) (disch := first | decide | omega) only [↓preS, ↓reduceIte, allS, Nat.reduceBEq, Nat.reduceAdd, Nat.reduceEqDiff, reduceIte, Int.reduceToNat, Int.reduceLE, Int.reduceLT, Nat.reduceLeDiff, Nat.reduceMul, Nat.reducePow, Nat.reduceLT, Int.reduceBEq, Int.reduceBNe, Int.reduceAdd, Int.reduceSub, Int.reduceMul, Int.reduceGT, Int.reduceGE, decS, Int.reduceNe, Int.reduceEq]
            unfold NL
            simp -implicitDefEqProofs (maxSteps := 500000) (disch := first | decide | omega) only [↓preS, ↓reduceIte, allS, Nat.reduceBEq, Nat.reduceAdd, Nat.reduceEqDiff, reduceIte, Int.reduceToNat, Int.reduceLE, Int.reduceLT, Nat.reduceLeDiff, Nat.reduceMul, Nat.reducePow, Nat.reduceLT, Int.reduceBEq, Int.reduceBNe, Int.reduceAdd, Int.reduceSub, Int.reduceMul, Int.reduceGT, Int.reduceGE, decS, Int.reduceNe, Int.reduceEq]
            exact ⟨rfl, _, _, rfl⟩
  refine key.sub ?_
  rintro y G ⟨rfl, G1, G2, rfl⟩
  refine ⟨_, _, ?_, rfl, rfl⟩
  unfold owC
  (refine Sub.ofL [some 2, some 3, some 4, some 5] rfl (by simp) (by decide) (by simp [partL, AO.ro, AV.ro, AV.roL, names, AO.empty, SB, U8, SI, I64, STR] <;> (try and_intros) <;> rfl) (by simp [AO.bo, AV.bo, AV.boL, names] <;> (try and_intros) <;> rfl) ?_ <;> (try simp only [List.map_cons, List.map_nil, regsL, AV.ro, AV.roL, AV.bo, AV.boL, names, get_here, get_there, Nat.reduceBEq, List.getD_cons_zero, List.getD_cons_succ, List.getD_nil, and_true, true_and, Nat.reduceLT, List.length_cons, List.length_nil, Nat.reduceAdd, decide_true, Option.isSome_some, Bool.true_or, Bool.and_self, Option.isSome_none, Bool.false_or, beq_self_eq_true, wk0_self, wk0_nils]) <;> (try and_intros) <;> (first | done | rfl | exact .inl rfl | exact .inr ⟨rfl, _, _, rfl⟩ | (simp; done) | (simp; omega) | (refine .inl ?_; simp; done) | (refine .inl ?_; simp; omega)))
end Go.Proofs.Ytceifhcjbmodaaa
