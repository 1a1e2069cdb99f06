/- What functions of the program compute. No condition. -/
import Derived.Test.YtceifhcjbmodaaaP7
import Derived.Test.YtceifhcjbmodaaaR6bCode
set_option linter.unusedSimpArgs false
set_option linter.unusedVariables false
namespace Go.Proofs.Ytceifhcjbmodaaa
open Go Go.Ab

/-! ### put -/
def insK (p : Int) (m : List App) : Nat := m.findIdx fun x => !decide (x.id < p)
def putL (a : App) (l : List App) : List App := let i := idxI (idP a.id) l; if 0 ≤ i then l.set i.toNat a else insL (insK a.id l) a l
theorem insK_at {p : Int} {m : List App} {i : Nat} (hi : i ≤ m.length) (hn : ∀ j, (h : j < i) → (h2 : j < m.length) → m[j].id < p) (hor : i = m.length ∨ ∃ h : i < m.length, ¬ m[i].id < p) : insK p m = i := by
  unfold insK
  rcases hor with rfl | ⟨h, hp⟩
  · apply List.findIdx_eq_length.2
    intro x hx
    obtain ⟨j, hj, rfl⟩ := List.getElem_of_mem hx
    simp [hn j hj hj]
  · rw [List.findIdx_eq h]
    exact ⟨by simp [hp], fun j hj => by simp [hn j hj (by omega)]⟩
def afC (s : Sta) (i k m : Nat) (A : AV) : List AV := [.sl false 1 (s.labels.map .str), .own i 3 0 s.qs.length, .sl false 8 (s.nodes.map NODE), A, .own k 9 0 s.conts.length, .own m 3 0 s.slots.length, .sl false 6 (s.plans.map PLAN), .int .i64 s.now, .int .i64 s.ep, .int .i64 s.sq]
def ownF : Fl := ⟨false, true, false, true, true, true, false⟩
theorem bor_own {H : List AO} {s : Sta} {i j k m : Nat} (h1 : H[i]? = some (.arr 3 (s.qs.map QUE))) (h2 : H[j]? = some (.arr 14 (s.apps.map APP))) (h3 : H[k]? = some (.arr 9 (s.conts.map CONT))) (h4 : H[m]? = some (.arr 3 (s.slots.map SLOT))) :
    Vw true H (.agg (owC s i j k m)) (.agg (stC ownF s)) := by
  have e : bor H (.agg (owC s i j k m)) = .agg (stC ownF s) := by
    simp [bor, bor1, owC, stC, ownF, rdS, h1, h2, h3, h4, List.take_of_length_le]
  have := Vw.bor (H := H) (a := .agg (owC s i j k m)) (by rw [e]; rfl)
  rwa [e] at this
theorem _root_.Go.Ab.ACall.len {P : Program} {f : FuncId} {args : List AV} {H : List AO} {Post : AV → List AO → Prop} (h : ACall P f args H Post) : ACall P f args H fun y G => Post y G ∧ H.length ≤ G.length :=
  ⟨h.1, fun E vs hm hl hv => (h.2 E vs hm hl hv).mono fun e w' ⟨v, y, H', E', h1, h2, h3, h4, h5, h6⟩ => ⟨v, y, H', E', h1, h2, h3, h4, h5, h6, h5.num⟩⟩
def four (s : Sta) : List AO := [.arr 3 (s.qs.map QUE), .arr 9 (s.conts.map CONT), .arr 3 (s.slots.map SLOT), .arr 14 (s.apps.map APP)]
set_option maxRecDepth 20000 in
set_option maxHeartbeats 16000000 in
theorem put_ok (s : Sta) (hl : s.apps.length ≤ 2 ^ 35) (a : App) : ACall Try.prog 22 [.agg (owC s 0 3 1 2), APP a] (four s) fun y G => ∃ A, (A = .sl false 14 ((putL a s.apps).map APP) ∨ (A = .own 3 14 0 (putL a s.apps).length)) ∧ y = .agg (afC s 0 1 2 A) ∧ ∃ o G', G = .arr 3 (s.qs.map QUE) :: .arr 9 (s.conts.map CONT) :: .arr 3 (s.slots.map SLOT) :: o :: G' ∧ (A = .own 3 14 0 (putL a s.apps).length → o = .arr 14 ((putL a s.apps).map APP)) := by
  unfold four
  refine acallR_at isR22 (by simp) rfl ?_
  obtain ⟨ls, qs, nodes, apps, conts, slots, plans, now, ep, sq⟩ := s
  simp only at hl ⊢
  have hb := fun H h1 h2 h3 h4 => bor_own (H := H) (s := ⟨ls, qs, nodes, apps, conts, slots, plans, now, ep, sq⟩) (i := 0) (j := 3) (k := 1) (m := 2) h1 h2 h3 h4
  have ca := at_ok ownF ⟨ls, qs, nodes, apps, conts, slots, plans, now, ep, sq⟩ a.id (by simp only; omega)
  unfold cc22
  unfold owC stC at *
  simp only at hb ca ⊢
  simp -implicitDefEqProofs (maxSteps := 500000) (disch := first | decide | omega) only [↓preS, ↓reduceIte, allS, Nat.reduceBEq, Nat.reduceAdd, Nat.reduceEqDiff, reduceIte, Int.reduceToNat, Int.reduceLE, Int.reduceLT, Nat.reduceLeDiff, Nat.reduceMul, Nat.reducePow, Nat.reduceLT, Int.reduceBEq, Int.reduceBNe, Int.reduceAdd, Int.reduceSub, Int.reduceMul, Int.reduceGT, Int.reduceGE, decS, Int.reduceNe, Int.reduceEq, appS]
  refine acK_of (FCall.of (lent := true) ca (.cons (hb _ rfl rfl rfl rfl) (.cons (Vw.refl rfl) .nil)) rfl (fun _ => rfl)) ?_
  unfold putL
  simp only
  rcases idx_cases (idP a.id) apps with ⟨h1, h2⟩ | ⟨i, hi, h1, h2, h3⟩
  · rw [h1]
    simp only [show ¬ (0 : Int) ≤ -1 by omega, if_false]
    simp -implicitDefEqProofs (maxSteps := 500000) (disch := first | decide | omega) only [↓preS, ↓reduceIte, allS, Nat.reduceBEq, Nat.reduceAdd, Nat.reduceEqDiff, reduceIte, Int.reduceToNat, Int.reduceLE, Int.reduceLT, Nat.reduceLeDiff, Nat.reduceMul, Nat.reducePow, Nat.reduceLT, Int.reduceBEq, Int.reduceBNe, Int.reduceAdd, Int.reduceSub, Int.reduceMul, Int.reduceGT, Int.reduceGE, decS, Int.reduceNe, Int.reduceEq]
    unfold cc22L0
    simp -implicitDefEqProofs (maxSteps := 500000) (disch := first | decide | omega) only [↓preS, ↓reduceIte, allS, Nat.reduceBEq, Nat.reduceAdd, Nat.reduceEqDiff, reduceIte, Int.reduceToNat, Int.reduceLE, Int.reduceLT, Nat.reduceLeDiff, Nat.reduceMul, Nat.reducePow, Nat.reduceLT, Int.reduceBEq, Int.reduceBNe, Int.reduceAdd, Int.reduceSub, Int.reduceMul, Int.reduceGT, Int.reduceGE, decS, Int.reduceNe, Int.reduceEq]
    refine aw_loopS (σ := Nat) (fun i => ⟨[(2, .ref 4 0 0), (3, .ref 5 0 0), (4, .ref 6 0 0), (6, .int .i64 (i : Int))], [.arr 3 (qs.map QUE), .arr 9 (conts.map CONT), .arr 3 (slots.map SLOT), .arr 14 (apps.map APP), .box [.sl false 1 (ls.map .str), .own 0 3 0 qs.length, .sl false 8 (nodes.map NODE), .own 3 14 0 apps.length, .own 1 9 0 conts.length, .own 2 3 0 slots.length, .sl false 6 (plans.map PLAN), .int .i64 now, .int .i64 ep, .int .i64 sq], .box (appC a), .box NL]⟩)
      (fun i => i ≤ apps.length ∧ ∀ j, (h : j < i) → (h2 : j < apps.length) → apps[j].id < a.id) (fun i => apps.length - i) 0 (.inl rfl) ⟨by omega, fun j h => by omega⟩ ?_
    rintro i ⟨hii, hn⟩
    unfold cc22l0
    have fin : ∀ K Kp, insK a.id apps = i → (∀ o1 o2 G, K (.sl false 14 ((insL (insK a.id apps) a apps).map APP)) ([.arr 3 (qs.map QUE), .arr 9 (conts.map CONT), .arr 3 (slots.map SLOT), o1, .box [.sl false 1 (ls.map .str), .own 0 3 0 qs.length, .sl false 8 (nodes.map NODE), .own 3 14 0 apps.length, .own 1 9 0 conts.length, .own 2 3 0 slots.length, .sl false 6 (plans.map PLAN), .int .i64 now, .int .i64 ep, .int .i64 sq], .box (appC a), .box NL, o2] ++ G)) → acK Try.prog 37 [.own 3 14 0 apps.length, .int .i64 (i : Int), .own 7 14 0 1] [.arr 3 (qs.map QUE), .arr 9 (conts.map CONT), .arr 3 (slots.map SLOT), .arr 14 (apps.map APP), .box [.sl false 1 (ls.map .str), .own 0 3 0 qs.length, .sl false 8 (nodes.map NODE), .own 3 14 0 apps.length, .own 1 9 0 conts.length, .own 2 3 0 slots.length, .sl false 6 (plans.map PLAN), .int .i64 now, .int .i64 ep, .int .i64 sq], .box (appC a), .box NL, .arr 14 [APP a]] K Kp := by
      intro K Kp hi hk
      have hc := ins_ok apps [] a i (by omega) (by simp; omega)
      rw [List.append_nil] at hc
      refine (hc.len.frame [3, 7] rfl (by simp) (by simp) ?_ rfl).to ?_
      · intro k o hk
        match k, hk with
        | 0, hk => simp only [List.getElem?_cons_zero, Option.some.injEq] at hk; subst hk; exact ⟨rfl, rfl⟩
        | 1, hk => simp only [List.getElem?_cons_succ, List.getElem?_cons_zero, Option.some.injEq] at hk; subst hk; exact ⟨rfl, rfl⟩
        | k + 2, hk => simp at hk
      rintro y G ⟨y0, Hr, ⟨rfl, hHr⟩, rfl, rfl⟩
      match Hr, hHr with
      | o1 :: o2 :: G, _ =>
      have := hk (o1.ren (ext [3, 7] 8)) (o2.ren (ext [3, 7] 8)) (G.map (AO.ren (ext [3, 7] 8)))
      rw [hi] at this
      exact this
    by_cases hil : i < apps.length
    · have hg : apps.getD i default = apps[i] := by simp [hil]
      by_cases hb : apps[i].id < a.id
      · simp -implicitDefEqProofs (maxSteps := 500000) (disch := first | decide | omega) only [↓preS, ↓reduceIte, allS, Nat.reduceBEq, Nat.reduceAdd, Nat.reduceEqDiff, reduceIte, Int.reduceToNat, Int.reduceLE, Int.reduceLT, Nat.reduceLeDiff, Nat.reduceMul, Nat.reducePow, Nat.reduceLT, Int.reduceBEq, Int.reduceBNe, Int.reduceAdd, Int.reduceSub, Int.reduceMul, Int.reduceGT, Int.reduceGE, decS, Int.reduceNe, Int.reduceEq, appS, appD, hg]
        repeat (refine And.intro (by omega) ?_)
        refine ⟨i + 1, .inl rfl, ⟨by omega, fun j h h2 => ?_⟩, by omega⟩
        by_cases hj : j = i
        · subst hj; exact hb
        · exact hn j (by omega) h2
      · have hi := insK_at (i := i) (by omega) hn (.inr ⟨hil, hb⟩)
        simp -implicitDefEqProofs (maxSteps := 500000) (disch := first | decide | omega) only [↓preS, ↓reduceIte, allS, Nat.reduceBEq, Nat.reduceAdd, Nat.reduceEqDiff, reduceIte, Int.reduceToNat, Int.reduceLE, Int.reduceLT, Nat.reduceLeDiff, Nat.reduceMul, Nat.reducePow, Nat.reduceLT, Int.reduceBEq, Int.reduceBNe, Int.reduceAdd, Int.reduceSub, Int.reduceMul, Int.reduceGT, Int.reduceGE, decS, Int.reduceNe, Int.reduceEq, appS, appD, hg, List.append_nil]
        repeat (refine And.intro (by omega) ?_)
        refine fin _ _ hi fun o1 o2 G => ?_
        simp -implicitDefEqProofs (maxSteps := 500000) (disch := first | decide | omega) only [↓preS, ↓reduceIte, allS, Nat.reduceBEq, Nat.reduceAdd, Nat.reduceEqDiff, reduceIte, Int.reduceToNat, Int.reduceLE, Int.reduceLT, Nat.reduceLeDiff, Nat.reduceMul, Nat.reducePow, Nat.reduceLT, Int.reduceBEq, Int.reduceBNe, Int.reduceAdd, Int.reduceSub, Int.reduceMul, Int.reduceGT, Int.reduceGE, decS, Int.reduceNe, Int.reduceEq, List.cons_append, List.nil_append]
        exact ⟨by decide, _, .inl rfl, rfl, _, _, rfl, fun h => by cases h⟩
    · have : i = apps.length := by omega
      subst this
      have hi := insK_at (i := apps.length) (by omega) hn (.inl rfl)
      simp -implicitDefEqProofs (maxSteps := 500000) (disch := first | decide | omega) only [↓preS, ↓reduceIte, allS, Nat.reduceBEq, Nat.reduceAdd, Nat.reduceEqDiff, reduceIte, Int.reduceToNat, Int.reduceLE, Int.reduceLT, Nat.reduceLeDiff, Nat.reduceMul, Nat.reducePow, Nat.reduceLT, Int.reduceBEq, Int.reduceBNe, Int.reduceAdd, Int.reduceSub, Int.reduceMul, Int.reduceGT, Int.reduceGE, decS, Int.reduceNe, Int.reduceEq, appS, appD, List.append_nil]
      repeat (refine And.intro (by omega) ?_)
      refine fin _ _ hi fun o1 o2 G => ?_
      simp -implicitDefEqProofs (maxSteps := 500000) (disch := first | decide | omega) only [↓preS, ↓reduceIte, allS, Nat.reduceBEq, Nat.reduceAdd, Nat.reduceEqDiff, reduceIte, Int.reduceToNat, Int.reduceLE, Int.reduceLT, Nat.reduceLeDiff, Nat.reduceMul, Nat.reducePow, Nat.reduceLT, Int.reduceBEq, Int.reduceBNe, Int.reduceAdd, Int.reduceSub, Int.reduceMul, Int.reduceGT, Int.reduceGE, decS, Int.reduceNe, Int.reduceEq, List.cons_append, List.nil_append]
      exact ⟨by decide, _, .inl rfl, rfl, _, _, rfl, fun h => by cases h⟩
  · rw [h1]
    simp only [show (0 : Int) ≤ (i : Int) by omega, if_true, Int.toNat_natCast]
    have hg : apps.getD i default = apps[i] := by simp [hi]
    simp -implicitDefEqProofs (maxSteps := 500000) (disch := first | decide | omega) only [↓preS, ↓reduceIte, allS, Nat.reduceBEq, Nat.reduceAdd, Nat.reduceEqDiff, reduceIte, Int.reduceToNat, Int.reduceLE, Int.reduceLT, Nat.reduceLeDiff, Nat.reduceMul, Nat.reducePow, Nat.reduceLT, Int.reduceBEq, Int.reduceBNe, Int.reduceAdd, Int.reduceSub, Int.reduceMul, Int.reduceGT, Int.reduceGE, decS, Int.reduceNe, Int.reduceEq, appS, hg, List.append_nil]
    refine ⟨by omega, by omega, by omega, _, .inr rfl, ?_, _, _, rfl, fun _ => rfl⟩
    simp [afC]
end Go.Proofs.Ytceifhcjbmodaaa
