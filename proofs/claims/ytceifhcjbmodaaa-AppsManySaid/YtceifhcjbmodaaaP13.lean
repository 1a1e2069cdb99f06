/- What functions of the program compute. No condition. -/
import Derived.Test.YtceifhcjbmodaaaP12
set_option linter.unusedSimpArgs false
set_option linter.unusedVariables false
namespace Go.Proofs.Ytceifhcjbmodaaa
open Go Go.Ab

/-! ### Strip and End, where nothing is held -/
def FN41 : AV := .fn (.func 41) [] [.ref 0 0 0, .ref 1 0 0]
def FN43 : AV := .fn (.func 43) [] [.ref 0 0 0]
def H3 (id : Int) : List AO := [.box [.int .i64 id], .box [.nils], .arr 9 []]
def H2 (id : Int) : List AO := [.box [.int .i64 id], .arr 3 []]
theorem idx53 (id : Int) : ACall Try.prog 53 [.own 2 9 0 0, FN41] (H3 id) fun y G => y = .int .i64 (-1) ∧ G = H3 id := by
  refine acall_at is53 (by simp) rfl ?_
  unfold cc53 FN41 H3
  simp -implicitDefEqProofs (maxSteps := 500000) (disch := first | decide | omega) only [↓preS, ↓reduceIte, allS, Nat.reduceBEq, Nat.reduceAdd, Nat.reduceEqDiff, reduceIte, Int.reduceToNat, Int.reduceLE, Int.reduceLT, Nat.reduceLeDiff, Nat.reduceMul, Nat.reducePow, Nat.reduceLT, Int.reduceBEq, Int.reduceBNe, Int.reduceAdd, Int.reduceSub, Int.reduceMul, Int.reduceGT, Int.reduceGE, decS, Int.reduceNe, Int.reduceEq]
  unfold cc53L0
  simp -implicitDefEqProofs (maxSteps := 500000) (disch := first | decide | omega) only [↓preS, ↓reduceIte, allS, Nat.reduceBEq, Nat.reduceAdd, Nat.reduceEqDiff, reduceIte, Int.reduceToNat, Int.reduceLE, Int.reduceLT, Nat.reduceLeDiff, Nat.reduceMul, Nat.reducePow, Nat.reduceLT, Int.reduceBEq, Int.reduceBNe, Int.reduceAdd, Int.reduceSub, Int.reduceMul, Int.reduceGT, Int.reduceGE, decS, Int.reduceNe, Int.reduceEq]
  refine aw_loopS (σ := Nat) (fun i => ⟨[(0, .own 2 9 0 0), (1, .fn (.func 41) [] [.ref 0 0 0, .ref 1 0 0]), (7, .int .i64 0), (8, .int .i64 0)], [.box [.int .i64 id], .box [.nils], .arr 9 []]⟩) (fun _ => True) (fun _ => 0) 0 (.inl rfl) trivial ?_
  rintro i -
  unfold cc53l0
  simp -implicitDefEqProofs (maxSteps := 500000) (disch := first | decide | omega) only [↓preS, ↓reduceIte, allS, Nat.reduceBEq, Nat.reduceAdd, Nat.reduceEqDiff, reduceIte, Int.reduceToNat, Int.reduceLE, Int.reduceLT, Nat.reduceLeDiff, Nat.reduceMul, Nat.reducePow, Nat.reduceLT, Int.reduceBEq, Int.reduceBNe, Int.reduceAdd, Int.reduceSub, Int.reduceMul, Int.reduceGT, Int.reduceGE, decS, Int.reduceNe, Int.reduceEq]
theorem idx54 (id : Int) : ACall Try.prog 54 [.own 1 3 0 0, FN43] (H2 id) fun y G => y = .int .i64 (-1) ∧ G = H2 id := by
  refine acall_at is54 (by simp) rfl ?_
  unfold cc54 FN43 H2
  simp -implicitDefEqProofs (maxSteps := 500000) (disch := first | decide | omega) only [↓preS, ↓reduceIte, allS, Nat.reduceBEq, Nat.reduceAdd, Nat.reduceEqDiff, reduceIte, Int.reduceToNat, Int.reduceLE, Int.reduceLT, Nat.reduceLeDiff, Nat.reduceMul, Nat.reducePow, Nat.reduceLT, Int.reduceBEq, Int.reduceBNe, Int.reduceAdd, Int.reduceSub, Int.reduceMul, Int.reduceGT, Int.reduceGE, decS, Int.reduceNe, Int.reduceEq]
  unfold cc54L0
  simp -implicitDefEqProofs (maxSteps := 500000) (disch := first | decide | omega) only [↓preS, ↓reduceIte, allS, Nat.reduceBEq, Nat.reduceAdd, Nat.reduceEqDiff, reduceIte, Int.reduceToNat, Int.reduceLE, Int.reduceLT, Nat.reduceLeDiff, Nat.reduceMul, Nat.reducePow, Nat.reduceLT, Int.reduceBEq, Int.reduceBNe, Int.reduceAdd, Int.reduceSub, Int.reduceMul, Int.reduceGT, Int.reduceGE, decS, Int.reduceNe, Int.reduceEq]
  refine aw_loopS (σ := Nat) (fun i => ⟨[(0, .own 1 3 0 0), (1, .fn (.func 43) [] [.ref 0 0 0]), (7, .int .i64 0), (8, .int .i64 0)], [.box [.int .i64 id], .arr 3 []]⟩) (fun _ => True) (fun _ => 0) 0 (.inl rfl) trivial ?_
  rintro i -
  unfold cc54l0
  simp -implicitDefEqProofs (maxSteps := 500000) (disch := first | decide | omega) only [↓preS, ↓reduceIte, allS, Nat.reduceBEq, Nat.reduceAdd, Nat.reduceEqDiff, reduceIte, Int.reduceToNat, Int.reduceLE, Int.reduceLT, Nat.reduceLeDiff, Nat.reduceMul, Nat.reducePow, Nat.reduceLT, Int.reduceBEq, Int.reduceBNe, Int.reduceAdd, Int.reduceSub, Int.reduceMul, Int.reduceGT, Int.reduceGE, decS, Int.reduceNe, Int.reduceEq]
theorem fdel40 (id : Int) : ACall Try.prog 40 [.own 2 9 0 0, FN41] (H3 id) fun y G => y = .own 2 9 0 0 ∧ G = H3 id := by
  refine acall_at is40 (by simp) rfl ?_
  unfold cc40
  have h := idx53 id
  unfold FN41 H3 at *
  simp -implicitDefEqProofs (maxSteps := 500000) (disch := first | decide | omega) only [↓preS, ↓reduceIte, allS, Nat.reduceBEq, Nat.reduceAdd, Nat.reduceEqDiff, reduceIte, Int.reduceToNat, Int.reduceLE, Int.reduceLT, Nat.reduceLeDiff, Nat.reduceMul, Nat.reducePow, Nat.reduceLT, Int.reduceBEq, Int.reduceBNe, Int.reduceAdd, Int.reduceSub, Int.reduceMul, Int.reduceGT, Int.reduceGE, decS, Int.reduceNe, Int.reduceEq]
  refine h.to ?_
  rintro y G ⟨rfl, rfl⟩
  simp -implicitDefEqProofs (maxSteps := 500000) (disch := first | decide | omega) only [↓preS, ↓reduceIte, allS, Nat.reduceBEq, Nat.reduceAdd, Nat.reduceEqDiff, reduceIte, Int.reduceToNat, Int.reduceLE, Int.reduceLT, Nat.reduceLeDiff, Nat.reduceMul, Nat.reducePow, Nat.reduceLT, Int.reduceBEq, Int.reduceBNe, Int.reduceAdd, Int.reduceSub, Int.reduceMul, Int.reduceGT, Int.reduceGE, decS, Int.reduceNe, Int.reduceEq]
theorem fdel42 (id : Int) : ACall Try.prog 42 [.own 1 3 0 0, FN43] (H2 id) fun y G => y = .own 1 3 0 0 ∧ G = H2 id := by
  refine acall_at is42 (by simp) rfl ?_
  unfold cc42
  have h := idx54 id
  unfold FN43 H2 at *
  simp -implicitDefEqProofs (maxSteps := 500000) (disch := first | decide | omega) only [↓preS, ↓reduceIte, allS, Nat.reduceBEq, Nat.reduceAdd, Nat.reduceEqDiff, reduceIte, Int.reduceToNat, Int.reduceLE, Int.reduceLT, Nat.reduceLeDiff, Nat.reduceMul, Nat.reducePow, Nat.reduceLT, Int.reduceBEq, Int.reduceBNe, Int.reduceAdd, Int.reduceSub, Int.reduceMul, Int.reduceGT, Int.reduceGE, decS, Int.reduceNe, Int.reduceEq]
  refine h.to ?_
  rintro y G ⟨rfl, rfl⟩
  simp -implicitDefEqProofs (maxSteps := 500000) (disch := first | decide | omega) only [↓preS, ↓reduceIte, allS, Nat.reduceBEq, Nat.reduceAdd, Nat.reduceEqDiff, reduceIte, Int.reduceToNat, Int.reduceLE, Int.reduceLT, Nat.reduceLeDiff, Nat.reduceMul, Nat.reducePow, Nat.reduceLT, Int.reduceBEq, Int.reduceBNe, Int.reduceAdd, Int.reduceSub, Int.reduceMul, Int.reduceGT, Int.reduceGE, decS, Int.reduceNe, Int.reduceEq]
def ownS (ls : List (List UInt8)) (qs : List Queue) (nodes : List Node) (n : Nat) (plans : List Plan) (now ep sq : Int) : AV := .agg [.sl false 1 (ls.map .str), .own 0 3 0 qs.length, .sl false 8 (nodes.map NODE), .own 3 14 0 n, .own 1 9 0 0, .own 2 3 0 0, .sl false 6 (plans.map PLAN), .int .i64 now, .int .i64 ep, .int .i64 sq]
set_option maxRecDepth 20000 in
set_option maxHeartbeats 8000000 in
theorem strip_ok (ls : List (List UInt8)) (qs : List Queue) (nodes : List Node) (l : List AV) (n : Nat) (plans : List Plan) (now ep sq id : Int) :
    ACall Try.prog 24 [ownS ls qs nodes n plans now ep sq, .int .i64 id] [.arr 3 (qs.map QUE), .arr 9 [], .arr 3 [], .arr 14 l] fun y G => y = .tup [ownS ls qs nodes n plans now ep sq, .nils] ∧ G = [.arr 3 (qs.map QUE), .arr 9 [], .arr 3 [], .arr 14 l] := by
  have key : ACall Try.prog 24 [ownS ls qs nodes n plans now ep sq, .int .i64 id] [.arr 3 (qs.map QUE), .arr 9 [], .arr 3 [], .arr 14 l] fun y G => y = .tup [ownS ls qs nodes n plans now ep sq, .nils] ∧ ∃ o1 o2 o3 o4, G = [.arr 3 (qs.map QUE), .arr 9 [], .arr 3 [], .arr 14 l, o1, o2, o3, o4] := ?_
  · refine key.sub ?_
    rintro y G ⟨rfl, o1, o2, o3, o4, rfl⟩
    refine ⟨_, _, ?_, rfl, rfl⟩
    unfold ownS
    (refine Sub.ofL [some 0, some 1, some 2, some 3] rfl (by simp) (by decide) (by simp [partL, AO.ro, AV.ro, AV.roL, names, AO.empty, SB, U8, SI, I64, STR] <;> (try and_intros) <;> rfl) (by simp [AO.bo, AV.bo, AV.boL, names] <;> (try and_intros) <;> rfl) ?_ <;> (try simp only [List.map_cons, List.map_nil, regsL, AV.ro, AV.roL, AV.bo, AV.boL, names, get_here, get_there, Nat.reduceBEq, List.getD_cons_zero, List.getD_cons_succ, List.getD_nil, and_true, true_and, Nat.reduceLT, List.length_cons, List.length_nil, Nat.reduceAdd, decide_true, Option.isSome_some, Bool.true_or, Bool.and_self, Option.isSome_none, Bool.false_or, beq_self_eq_true, wk0_self, wk0_nils]) <;> (try and_intros) <;> (first | done | rfl | exact .inl rfl | exact .inr ⟨rfl, _, _, rfl⟩ | (simp; done) | (simp; omega) | (refine .inl ?_; simp; done) | (refine .inl ?_; simp; omega)))
  unfold ownS
  refine acallR_at isR24 (by simp) rfl ?_
  unfold cc24
  have h40 := fdel40 id
  have h42 := fdel42 id
  unfold FN41 H3 FN43 H2 at *
  simp -implicitDefEqProofs (maxSteps := 500000) (disch := first | decide | omega) only [↓preS, ↓reduceIte, allS, Nat.reduceBEq, Nat.reduceAdd, Nat.reduceEqDiff, reduceIte, Int.reduceToNat, Int.reduceLE, Int.reduceLT, Nat.reduceLeDiff, Nat.reduceMul, Nat.reducePow, Nat.reduceLT, Int.reduceBEq, Int.reduceBNe, Int.reduceAdd, Int.reduceSub, Int.reduceMul, Int.reduceGT, Int.reduceGE, decS, Int.reduceNe, Int.reduceEq]
  refine (h40.frame [5, 7, 1] rfl (by simp) (by simp) ?_ rfl).to ?_
  · intro k o hk
    match k, hk with
    | 0, hk => simp only [List.getElem?_cons_zero, Option.some.injEq] at hk; subst hk; exact ⟨rfl, rfl⟩
    | 1, hk => simp only [List.getElem?_cons_succ, List.getElem?_cons_zero, Option.some.injEq] at hk; subst hk; exact ⟨rfl, rfl⟩
    | 2, hk => simp only [List.getElem?_cons_succ, List.getElem?_cons_zero, Option.some.injEq] at hk; subst hk; exact ⟨rfl, rfl⟩
    | k + 3, hk => simp at hk
  rintro y G ⟨y0, Hr, ⟨rfl, rfl⟩, rfl, rfl⟩
  simp -implicitDefEqProofs (maxSteps := 500000) (disch := first | decide | omega) only [↓preS, ↓reduceIte, allS, Nat.reduceBEq, Nat.reduceAdd, Nat.reduceEqDiff, reduceIte, Int.reduceToNat, Int.reduceLE, Int.reduceLT, Nat.reduceLeDiff, Nat.reduceMul, Nat.reducePow, Nat.reduceLT, Int.reduceBEq, Int.reduceBNe, Int.reduceAdd, Int.reduceSub, Int.reduceMul, Int.reduceGT, Int.reduceGE, decS, Int.reduceNe, Int.reduceEq, AV.ren, AO.ren, AV.renL, ext, spl, setAll, List.length_cons, List.length_nil, List.getD_cons_zero, List.getD_cons_succ, List.map_cons, List.map_nil]
  refine (h42.frame [5, 2] rfl (by simp) (by simp) ?_ rfl).to ?_
  · intro k o hk
    match k, hk with
    | 0, hk => simp only [List.getElem?_cons_zero, Option.some.injEq] at hk; subst hk; exact ⟨rfl, rfl⟩
    | 1, hk => simp only [List.getElem?_cons_succ, List.getElem?_cons_zero, Option.some.injEq] at hk; subst hk; exact ⟨rfl, rfl⟩
    | k + 2, hk => simp at hk
  rintro y G ⟨y0, Hr, ⟨rfl, rfl⟩, rfl, rfl⟩
  simp -implicitDefEqProofs (maxSteps := 500000) (disch := first | decide | omega) only [↓preS, ↓reduceIte, allS, Nat.reduceBEq, Nat.reduceAdd, Nat.reduceEqDiff, reduceIte, Int.reduceToNat, Int.reduceLE, Int.reduceLT, Nat.reduceLeDiff, Nat.reduceMul, Nat.reducePow, Nat.reduceLT, Int.reduceBEq, Int.reduceBNe, Int.reduceAdd, Int.reduceSub, Int.reduceMul, Int.reduceGT, Int.reduceGE, decS, Int.reduceNe, Int.reduceEq, AV.ren, AO.ren, AV.renL, ext, spl, setAll, List.length_cons, List.length_nil, List.getD_cons_zero, List.getD_cons_succ, List.map_cons, List.map_nil]
  exact ⟨_, _, _, _, rfl⟩
/-! ### End -/
theorem WkL.refl : ∀ l : List AV, WkL l l
  | [] => trivial
  | a :: l => ⟨.inl rfl, WkL.refl l⟩
theorem WkL.app : ∀ {a b c d : List AV}, WkL a b → WkL c d → WkL (a ++ c) (b ++ d)
  | [], [], _, _, _, h => h
  | x :: a, y :: b, _, _, h, h2 => ⟨h.1, WkL.app h.2 h2⟩
  | [], y :: b, _, _, h, _ => h.elim
  | x :: a, [], _, _, h, _ => h.elim
theorem flat_set {x y : AV} (h : WkL x.cells y.cells) : ∀ (l : List AV) (i : Nat), WkL (flat (l.set i x)) (flat (l.set i y))
  | [], i => trivial
  | a :: l, 0 => WkL.app h (WkL.refl _)
  | a :: l, i + 1 => WkL.app (WkL.refl _) (flat_set h l i)
def deadA (st : Int) (a : App) : App := { a with state := st, asks := [], grants := [], kills := [], told := [], lost := [] }
def endF (s : Sta) (id st : Int) : Sta :=
  let i := idxI (idP id) s.apps
  if 0 ≤ i ∧ liveP (s.apps.getD i.toNat default) = true then { s with apps := s.apps.set i.toNat (deadA st (s.apps.getD i.toNat default)) } else s
theorem Wk4.tup2 {r y a b : AV} (h : Wk4 r y) (h2 : Wk4 a b) : Wk4 (.tup [r, a]) (.tup [y, b]) := by
  intro E n v hv
  obtain ⟨vs, rfl, hl, hk⟩ := hv.tup_inv
  refine .tup hl fun k z hz => ?_
  match k, hz with
  | 0, hz => simp at hz; subst hz; exact h _ _ _ (hk 0 _ rfl)
  | 1, hz => simp at hz; subst hz; exact h2 _ _ _ (hk 1 _ rfl)
  | k + 2, hz => simp at hz
theorem _root_.Go.Ab.PCall.wk4 {P : Program} {f : FuncId} {args : List AV} {y : AV} (h : ACall P f args [] fun r _ => Wk4 r y) : PCall P f args y :=
  ⟨h.1, fun E vs hm hl hv => (h.2 E vs hm hl hv).mono fun e w' ⟨v, y', H', E', h1, h2, h3, h4, h5, h6⟩ => ⟨v, y, H', E', h1, h2, h6 _ _ _ h3, h4, h5, rfl⟩⟩
set_option maxRecDepth 20000 in
set_option maxHeartbeats 16000000 in
theorem end_ok (b : Fl) (s : Sta) (hs : SOk s) (hc0 : s.conts = []) (hs0 : s.slots = []) (hl35 : s.apps.length ≤ 2 ^ 34) (id st : Int) : PCall Try.prog 12 [.agg (stC b s), .int .i64 id, .int .i64 st] (.tup [.agg (stC FF (endF s id st)), .nils]) := by
  have co := own_ok b s hs
  have hb := fun H h1 h2 h3 h4 => bor_own (H := H) (s := s) (i := 2) (j := 5) (k := 3) (m := 4) h1 h2 h3 h4
  have ca := at_ok ownF s id (by omega)
  obtain ⟨ls, qs, nodes, apps, conts, slots, plans, now, ep, sq⟩ := s
  simp only at hc0 hs0
  subst hc0 hs0
  refine PCall.wk4 (acallR_of isR12 (by simp) ?_)
  unfold cc12
  unfold stC owC at *
  simp only at hb ca co hl35 ⊢
  simp -implicitDefEqProofs (maxSteps := 500000) (disch := first | decide | omega) only [↓preS, ↓reduceIte, allS, Nat.reduceBEq, Nat.reduceAdd, Nat.reduceEqDiff, reduceIte, Int.reduceToNat, Int.reduceLE, Int.reduceLT, Nat.reduceLeDiff, Nat.reduceMul, Nat.reducePow, Nat.reduceLT, Int.reduceBEq, Int.reduceBNe, Int.reduceAdd, Int.reduceSub, Int.reduceMul, Int.reduceGT, Int.reduceGE, decS, Int.reduceNe, Int.reduceEq]
  refine acK_new co rfl rfl ?_
  rintro y G ⟨rfl, rfl⟩
  simp -implicitDefEqProofs (maxSteps := 500000) (disch := first | decide | omega) only [↓preS, ↓reduceIte, allS, Nat.reduceBEq, Nat.reduceAdd, Nat.reduceEqDiff, reduceIte, Int.reduceToNat, Int.reduceLE, Int.reduceLT, Nat.reduceLeDiff, Nat.reduceMul, Nat.reducePow, Nat.reduceLT, Int.reduceBEq, Int.reduceBNe, Int.reduceAdd, Int.reduceSub, Int.reduceMul, Int.reduceGT, Int.reduceGE, decS, Int.reduceNe, Int.reduceEq, AV.ren, AO.ren, up, AV.renL]
  refine acK_of (FCall.of (lent := true) ca (.cons (hb _ rfl rfl rfl rfl) (.cons (Vw.refl rfl) .nil)) rfl (fun _ => rfl)) ?_
  rcases idx_cases0 (idP id) apps with ⟨h1, h2⟩ | ⟨i, hi, h1, h2⟩
  · have e : endF ⟨ls, qs, nodes, apps, [], [], plans, now, ep, sq⟩ id st = ⟨ls, qs, nodes, apps, [], [], plans, now, ep, sq⟩ := by
      unfold endF
      simp only [h1]
      rw [if_neg (by omega)]
    rw [e, h1]
    simp -implicitDefEqProofs (maxSteps := 500000) (disch := first | decide | omega) only [↓preS, ↓reduceIte, allS, Nat.reduceBEq, Nat.reduceAdd, Nat.reduceEqDiff, reduceIte, Int.reduceToNat, Int.reduceLE, Int.reduceLT, Nat.reduceLeDiff, Nat.reduceMul, Nat.reducePow, Nat.reduceLT, Int.reduceBEq, Int.reduceBNe, Int.reduceAdd, Int.reduceSub, Int.reduceMul, Int.reduceGT, Int.reduceGE, decS, Int.reduceNe, Int.reduceEq]
    exact .refl _
  · have hg : apps.getD i default = apps[i] := by simp [hi]
    cases hl : liveP apps[i]
    · have e : endF ⟨ls, qs, nodes, apps, [], [], plans, now, ep, sq⟩ id st = ⟨ls, qs, nodes, apps, [], [], plans, now, ep, sq⟩ := by
        unfold endF
        simp only [h1, Int.toNat_natCast, hg, hl]
        rw [if_neg (by simp)]
      rw [e, h1]
      have c11 := live_ok apps[i]
      rw [hl] at c11
      simp -implicitDefEqProofs (maxSteps := 500000) (disch := first | decide | omega) only [↓preS, ↓reduceIte, allS, Nat.reduceBEq, Nat.reduceAdd, Nat.reduceEqDiff, reduceIte, Int.reduceToNat, Int.reduceLE, Int.reduceLT, Nat.reduceLeDiff, Nat.reduceMul, Nat.reducePow, Nat.reduceLT, Int.reduceBEq, Int.reduceBNe, Int.reduceAdd, Int.reduceSub, Int.reduceMul, Int.reduceGT, Int.reduceGE, decS, Int.reduceNe, Int.reduceEq, hg, appS, appD]
      refine ⟨by omega, by omega, by omega, ?_⟩
      refine acK_of (FCall.of (lent := false) (c11) (.refl rfl) rfl (by simp)) ?_
      simp -implicitDefEqProofs (maxSteps := 500000) (disch := first | decide | omega) only [↓preS, ↓reduceIte, allS, Nat.reduceBEq, Nat.reduceAdd, Nat.reduceEqDiff, reduceIte, Int.reduceToNat, Int.reduceLE, Int.reduceLT, Nat.reduceLeDiff, Nat.reduceMul, Nat.reducePow, Nat.reduceLT, Int.reduceBEq, Int.reduceBNe, Int.reduceAdd, Int.reduceSub, Int.reduceMul, Int.reduceGT, Int.reduceGE, decS, Int.reduceNe, Int.reduceEq]
      exact .refl _
    · have e : endF ⟨ls, qs, nodes, apps, [], [], plans, now, ep, sq⟩ id st = ⟨ls, qs, nodes, apps.set i (deadA st apps[i]), [], [], plans, now, ep, sq⟩ := by
        unfold endF
        simp only [h1, Int.toNat_natCast, hg, hl]
        rw [if_pos (by simp)]
      rw [e, h1]
      have c11 := live_ok apps[i]
      rw [hl] at c11
      simp -implicitDefEqProofs (maxSteps := 500000) (disch := first | decide | omega) only [↓preS, ↓reduceIte, allS, Nat.reduceBEq, Nat.reduceAdd, Nat.reduceEqDiff, reduceIte, Int.reduceToNat, Int.reduceLE, Int.reduceLT, Nat.reduceLeDiff, Nat.reduceMul, Nat.reducePow, Nat.reduceLT, Int.reduceBEq, Int.reduceBNe, Int.reduceAdd, Int.reduceSub, Int.reduceMul, Int.reduceGT, Int.reduceGE, decS, Int.reduceNe, Int.reduceEq, hg, appS, appD]
      refine ⟨by omega, by omega, by omega, ?_⟩
      refine acK_of (FCall.of (lent := false) (c11) (.refl rfl) rfl (by simp)) ?_
      have ha : appC apps[i] = [.int .i64 apps[i].id, .int .i64 apps[i].state, .str apps[i].queue, .int .i64 apps[i].user, .int .i64 apps[i].prio, .int .i64 apps[i].mem, .int .i64 apps[i].cores, .sl false 8 (apps[i].asks.map ASK), .int .i64 apps[i].seen, .int .i64 apps[i].beat, .sl false 1 (apps[i].grants.map I64), .sl false 1 (apps[i].kills.map I64), .sl false 1 (apps[i].told.map I64), .sl false 1 (apps[i].lost.map I64)] := rfl
      simp -implicitDefEqProofs (maxSteps := 500000) (disch := first | decide | omega) only [↓preS, ↓reduceIte, allS, Nat.reduceBEq, Nat.reduceAdd, Nat.reduceEqDiff, reduceIte, Int.reduceToNat, Int.reduceLE, Int.reduceLT, Nat.reduceLeDiff, Nat.reduceMul, Nat.reducePow, Nat.reduceLT, Int.reduceBEq, Int.reduceBNe, Int.reduceAdd, Int.reduceSub, Int.reduceMul, Int.reduceGT, Int.reduceGE, decS, Int.reduceNe, Int.reduceEq, hg, appS, appD, ha, List.append_nil]
      have hL : elemUpd ((List.map APP apps).getD i AV.top) 0 14 [.int .i64 apps[i].id, .int .i64 st, .str apps[i].queue, .int .i64 apps[i].user, .int .i64 apps[i].prio, .int .i64 apps[i].mem, .int .i64 apps[i].cores, .nils, .int .i64 apps[i].seen, .int .i64 apps[i].beat, .nils, .nils, .nils, .nils] = .agg [.int .i64 apps[i].id, .int .i64 st, .str apps[i].queue, .int .i64 apps[i].user, .int .i64 apps[i].prio, .int .i64 apps[i].mem, .int .i64 apps[i].cores, .nils, .int .i64 apps[i].seen, .int .i64 apps[i].beat, .nils, .nils, .nils, .nils] := by
        have : (List.map APP apps).getD i AV.top = APP apps[i] := by simp [hi]
        rw [this]
        rfl
      rw [hL]
      refine ⟨by omega, by omega, by omega, by omega, by omega, by omega, ?_⟩
      generalize hl' : (List.map APP apps).set i _ = l
      have c24 := strip_ok ls qs nodes l apps.length plans now ep sq id
      unfold ownS at c24
      refine (c24.frame [2, 3, 4, 5] rfl (by simp) (by simp) ?_ rfl).to ?_
      · intro k o hk
        match k, hk with
        | 0, hk => simp only [List.getElem?_cons_zero, Option.some.injEq] at hk; subst hk; exact ⟨rfl, rfl⟩
        | 1, hk => simp only [List.getElem?_cons_succ, List.getElem?_cons_zero, Option.some.injEq] at hk; subst hk; exact ⟨rfl, rfl⟩
        | 2, hk => simp only [List.getElem?_cons_succ, List.getElem?_cons_zero, Option.some.injEq] at hk; subst hk; exact ⟨rfl, rfl⟩
        | 3, hk => simp only [List.getElem?_cons_succ, List.getElem?_cons_zero, Option.some.injEq] at hk; subst hk; exact ⟨rfl, rfl⟩
        | k + 4, hk => simp at hk
      rintro y G ⟨y0, Hr, ⟨rfl, rfl⟩, rfl, rfl⟩
      simp -implicitDefEqProofs (maxSteps := 500000) (disch := first | decide | omega) only [↓preS, ↓reduceIte, allS, Nat.reduceBEq, Nat.reduceAdd, Nat.reduceEqDiff, reduceIte, Int.reduceToNat, Int.reduceLE, Int.reduceLT, Nat.reduceLeDiff, Nat.reduceMul, Nat.reducePow, Nat.reduceLT, Int.reduceBEq, Int.reduceBNe, Int.reduceAdd, Int.reduceSub, Int.reduceMul, Int.reduceGT, Int.reduceGE, decS, Int.reduceNe, Int.reduceEq, AV.ren, AO.ren, AV.renL, ext, spl, setAll, List.length_cons, List.length_nil, List.getD_cons_zero, List.getD_cons_succ, List.map_cons, List.map_nil]
      have hll : l.length = apps.length := by rw [← hl']; simp
      rw [if_pos (by omega), List.take_of_length_le (by omega)]
      have hset : (apps.set i (deadA st apps[i])).map APP = (apps.map APP).set i (APP (deadA st apps[i])) := List.map_set
      refine ⟨rfl, Wk4.tup2 (.agg ⟨.refl _, .refl _, .refl _, .sl ?_ ?_ ?_, .refl _, .refl _, .refl _, .refl _, .refl _, .refl _, trivial⟩ ?_) (.refl _)⟩
      · simp [hll]
      · intro x hx
        obtain ⟨y, _, rfl⟩ := List.mem_map.1 hx
        rfl
      · rw [hset, ← hl']
        refine flat_set ?_ _ _
        simp [AV.cells, APP, appC, deadA, WkL, Wk1]
      · intro a ha
        simp only [List.mem_cons, List.not_mem_nil, or_false] at ha
        rcases ha with rfl | rfl | rfl | rfl | rfl | rfl | rfl | rfl | rfl | rfl <;> rfl
end Go.Proofs.Ytceifhcjbmodaaa
