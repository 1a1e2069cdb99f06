/- What functions of the program compute. No condition. -/
import Derived.Test.YtceifhcjbmodaaaP11
set_option linter.unusedSimpArgs false
set_option linter.unusedVariables false
namespace Go.Proofs.Ytceifhcjbmodaaa
open Go Go.Ab

def rootP : List UInt8 := [114, 111, 111, 116]
/-- An application asked for by the laws. -/
def askA (id : Int) : App := ⟨id, 0, rootP, 0, 0, 1, 1, [], 0, 0, [], [], [], []⟩
def nilB (id st : Int) (q : List UInt8) (us pr m c now : Int) : AV := .agg [.int .i64 id, .int .i64 st, .str q, .int .i64 us, .int .i64 pr, .int .i64 m, .int .i64 c, .nils, .int .i64 now, .int .i64 0, .nils, .nils, .nils, .nils]
theorem wkB (id st : Int) (q : List UInt8) (us pr m c now : Int) : Wk3 (nilB id st q us pr m c now) (APP ⟨id, st, q, us, pr, m, c, [], now, 0, [], [], [], []⟩) := by
  refine .inl (.inr ⟨_, _, rfl, rfl, ?_⟩)
  simp [appC, WkL, Wk1]
theorem wkQ (id : Int) : Wk3 (nilB id 0 [114, 111, 111, 116] 0 0 1 1 0) (APP (askA id)) := wkB _ _ _ _ _ _ _ _
theorem wkQ' (id : Int) : Wk3 (.agg [.int .i64 id, .int .i64 0, .str [114, 111, 111, 116], .int .i64 0, .int .i64 0, .int .i64 1, .int .i64 1, .nils, .int .i64 0, .int .i64 0, .nils, .nils, .nils, .nils]) (APP (askA id)) := wkB _ _ _ _ _ _ _ _
def S1 : Sta := ⟨[[]], [q0], [], [newA 0 (askA 4)], [], [], [], 0, 0, 0⟩
theorem S0ok : SOk S0 := by
  constructor <;> simp [S0, q0]
  · constructor <;> simp
theorem newOk (now id : Int) : AOk (newA now (askA id)) := by
  constructor <;> simp [newA]
theorem askIn (id : Int) (h : 0 ≤ id) (h2 : id ≤ 9999) : AIn (askA id) := by
  constructor <;> simp [askA] <;> omega
theorem leaf0 : leafP rootP [q0] = true := by decide
set_option maxRecDepth 20000 in
set_option maxHeartbeats 4000000 in
theorem known_ok : PCall Try.prog 5 [] (.bool true) := by
  unfold PCall
  refine acall_of is5 (by simp) ?_
  unfold cc5
  have c7 := new_ok
  have c9 := submit_ok FF S0 S0ok (by simp [S0]) (askA 4) (askIn 4 (by omega) (by omega))
  have e : submitF S0 (askA 4) = (S1, 0) := by
    unfold submitF
    rw [if_neg (by decide), if_neg (by decide), if_neg (by decide)]
    rfl
  rw [e] at c9
  clear e
  have c10 : PCall Try.prog 10 [.agg (stC FF S1), .int .i64 4] (.tup [APP (newA 0 (askA 4)), .bool true]) := find_ok2 FF S1 4 (by simp [S1]) 0 (by simp [S1]) rfl (newOk 0 4)
  have c11 := live_ok (newA 0 (askA 4))
  simp -implicitDefEqProofs (maxSteps := 500000) (disch := first | decide | omega) only [↓preS, ↓reduceIte, allS, Nat.reduceBEq, Nat.reduceAdd, Nat.reduceEqDiff, reduceIte, Int.reduceToNat, Int.reduceLE, Int.reduceLT, Nat.reduceLeDiff, Nat.reduceMul, Nat.reducePow, Nat.reduceLT, Int.reduceBEq, Int.reduceBNe, Int.reduceAdd, Int.reduceSub, Int.reduceMul, Int.reduceGT, Int.reduceGE, decS, Int.reduceNe, Int.reduceEq]
  refine acK_of (FCall.of (lent := false) (c7) (.refl rfl) rfl (by simp)) ?_
  simp -implicitDefEqProofs (maxSteps := 500000) (disch := first | decide | omega) only [↓preS, ↓reduceIte, allS, Nat.reduceBEq, Nat.reduceAdd, Nat.reduceEqDiff, reduceIte, Int.reduceToNat, Int.reduceLE, Int.reduceLT, Nat.reduceLeDiff, Nat.reduceMul, Nat.reducePow, Nat.reduceLT, Int.reduceBEq, Int.reduceBNe, Int.reduceAdd, Int.reduceSub, Int.reduceMul, Int.reduceGT, Int.reduceGE, decS, Int.reduceNe, Int.reduceEq, fillOk, fillAV, List.append_nil]
  refine acK_of (FCall.of (lent := false) c9 (.cons (.refl rfl) (.cons (Vw.wk (wkQ 4) rfl) .nil)) rfl (by simp)) ?_
  unfold S1 stC at c10 ⊢
  simp only at c10 ⊢
  have m1 : (newA 0 (askA 4)).state = 1 := rfl
  have m2 : (newA 0 (askA 4)).asks.length = 1 := rfl
  have m3 : liveP (newA 0 (askA 4)) = true := rfl
  rw [m3] at c11
  clear m3
  generalize newA 0 (askA 4) = m at *
  simp -implicitDefEqProofs (maxSteps := 500000) (disch := first | decide | omega) only [↓preS, ↓reduceIte, allS, Nat.reduceBEq, Nat.reduceAdd, Nat.reduceEqDiff, reduceIte, Int.reduceToNat, Int.reduceLE, Int.reduceLT, Nat.reduceLeDiff, Nat.reduceMul, Nat.reducePow, Nat.reduceLT, Int.reduceBEq, Int.reduceBNe, Int.reduceAdd, Int.reduceSub, Int.reduceMul, Int.reduceGT, Int.reduceGE, decS, Int.reduceNe, Int.reduceEq]
  refine acK_of (FCall.of (lent := false) (c10) (.refl rfl) rfl (by simp)) ?_
  simp -implicitDefEqProofs (maxSteps := 500000) (disch := first | decide | omega) only [↓preS, ↓reduceIte, allS, Nat.reduceBEq, Nat.reduceAdd, Nat.reduceEqDiff, reduceIte, Int.reduceToNat, Int.reduceLE, Int.reduceLT, Nat.reduceLeDiff, Nat.reduceMul, Nat.reducePow, Nat.reduceLT, Int.reduceBEq, Int.reduceBNe, Int.reduceAdd, Int.reduceSub, Int.reduceMul, Int.reduceGT, Int.reduceGE, decS, Int.reduceNe, Int.reduceEq, appS, appD, List.append_nil, m1, m2]
  refine acK_of (FCall.of (lent := false) (c11) (.refl rfl) rfl (by simp)) ?_
  simp -implicitDefEqProofs (maxSteps := 500000) (disch := first | decide | omega) only [↓preS, ↓reduceIte, allS, Nat.reduceBEq, Nat.reduceAdd, Nat.reduceEqDiff, reduceIte, Int.reduceToNat, Int.reduceLE, Int.reduceLT, Nat.reduceLeDiff, Nat.reduceMul, Nat.reducePow, Nat.reduceLT, Int.reduceBEq, Int.reduceBNe, Int.reduceAdd, Int.reduceSub, Int.reduceMul, Int.reduceGT, Int.reduceGE, decS, Int.reduceNe, Int.reduceEq]
/-! ### Telling a value by less, within slices too -/
def Wk4 (r y : AV) : Prop := ∀ (E : Env) (n : Nat) (v : Value), E.VR n v r → E.VR n v y
theorem Wk4.refl (r : AV) : Wk4 r r := fun _ _ _ h => h
theorem Wk4.sl {t : Bool} {z : Nat} {l l' : List AV} (hl : l.length = l'.length) (hel : ∀ a ∈ l', a.el z = true) (hf : WkL (flat l) (flat l')) : Wk4 (.sl t z l) (.sl t z l') := by
  intro E n v hv
  cases hv with
  | sl0 =>
    have : l' = [] := List.eq_nil_of_length_eq_zero hl.symm
    subst this
    exact .sl0
  | sl u hm hlen hS he hc hk =>
    refine .sl u (hm.trans hl) (hl ▸ hlen) hS hel (fun k h => hc k (by rw [hf.len]; exact h)) fun k y hy => ?_
    obtain ⟨r, h1, h2⟩ := hf.get k y hy
    exact h2.vr (hk k r h1)
def Wk4s : List AV → List AV → Prop
  | [], [] => True
  | r :: rs, y :: ys => Wk4 r y ∧ Wk4s rs ys
  | _, _ => False
theorem Wk4s.len : ∀ {rs ys : List AV}, Wk4s rs ys → rs.length = ys.length
  | [], [], _ => rfl
  | r :: rs, y :: ys, h => by simp [Wk4s.len h.2]
  | [], y :: ys, h => h.elim
  | r :: rs, [], h => h.elim
theorem Wk4s.get : ∀ {rs ys : List AV}, Wk4s rs ys → ∀ (k : Nat) (y : AV), ys[k]? = some y → ∃ r, rs[k]? = some r ∧ Wk4 r y
  | [], [], _, k, y, h => by simp at h
  | r :: rs, q :: ys, h, 0, y, hk => by simp at hk; subst hk; exact ⟨r, rfl, h.1⟩
  | r :: rs, q :: ys, h, k + 1, y, hk => by simpa using Wk4s.get h.2 k y (by simpa using hk)
  | [], y :: ys, h, _, _, _ => h.elim
  | r :: rs, [], h, _, _, _ => h.elim
theorem Wk4.agg {cs ds : List AV} (h : Wk4s cs ds) (h1 : ∀ a ∈ ds, a.one = true) : Wk4 (.agg cs) (.agg ds) := by
  intro E n v hv
  cases hv with
  | agg hl _ hk =>
    refine .agg (hl.trans h.len) h1 fun k y hy => ?_
    obtain ⟨r, g1, g2⟩ := h.get k y hy
    exact g2 _ _ _ (hk k r g1)
theorem _root_.Go.Ab.Vw.wk4 {lent : Bool} {H : List AO} {a a' : AV} (h : Wk4 a a') (ha : a'.low = true) : Vw lent H a a' := fun G E v hm hv => Vw.refl ha G E v hm (h _ _ _ hv)
theorem flat_apps {id st sn : Int} : WkL (flat [.agg [.int .i64 id, .int .i64 st, .str [114, 111, 111, 116], .int .i64 0, .int .i64 0, .int .i64 1, .int .i64 1, .nils, .int .i64 sn, .int .i64 0, .nils, .nils, .nils, .nils]]) (flat ([(⟨id, st, rootP, 0, 0, 1, 1, [], sn, 0, [], [], [], []⟩ : App)].map APP)) := by
  simp [flat, APP, appC, AV.cells, WkL, Wk1, rootP]
def LA (st sn : Int) : App := ⟨7, st, rootP, 0, 0, 1, 1, [], sn, 0, [], [], [], []⟩
def LS (st sn n : Int) (cs : List Cont) : Sta := ⟨[[]], [q0], [⟨1, 0, 0, 5, 5, 0, 0, true⟩], [LA st sn], cs, [], [], n, 0, 0⟩
theorem wkLife (st sn n : Int) (cs : List Cont) : Wk4 (.agg [.sl FF.l 1 (S0.labels.map .str), .sl FF.q 3 (S0.qs.map QUE), .sl false 8 [.agg [.int .i64 1, .int .i64 0, .int .i64 0, .int .i64 5, .int .i64 5, .int .i64 0, .int .i64 0, .bool true]], .sl false 14 [.agg [.int .i64 7, .int .i64 st, .str [114, 111, 111, 116], .int .i64 0, .int .i64 0, .int .i64 1, .int .i64 1, .nils, .int .i64 sn, .int .i64 0, .nils, .nils, .nils, .nils]], .sl false 9 (cs.map CONT), .sl FF.s 3 (S0.slots.map SLOT), .sl FF.p 6 (S0.plans.map PLAN), .int .i64 n, .int .i64 S0.ep, .int .i64 S0.sq]) (.agg (stC FF (LS st sn n cs))) := by
  refine .agg ⟨.refl _, .refl _, .refl _, .sl rfl (by intro a ha; simp [LS] at ha; subst ha; rfl) flat_apps, .refl _, .refl _, .refl _, .refl _, .refl _, .refl _, trivial⟩ ?_
  intro a ha
  simp only [stC, List.mem_cons, List.not_mem_nil, or_false] at ha
  rcases ha with rfl | rfl | rfl | rfl | rfl | rfl | rfl | rfl | rfl | rfl <;> rfl
set_option maxRecDepth 20000 in
set_option maxHeartbeats 4000000 in
theorem life_law (a b c : Int) : ACall Try.prog 3 [.int .i64 a, .int .i64 b, .int .i64 c] [] fun y _ => y = .bool true := by
  refine acall_of is3 (by simp) ?_
  unfold cc3
  simp -implicitDefEqProofs (maxSteps := 500000) (disch := first | decide | omega) only [↓preS, ↓reduceIte, allS, Nat.reduceBEq, Nat.reduceAdd, Nat.reduceEqDiff, reduceIte, Int.reduceToNat, Int.reduceLE, Int.reduceLT, Nat.reduceLeDiff, Nat.reduceMul, Nat.reducePow, Nat.reduceLT, Int.reduceBEq, Int.reduceBNe, Int.reduceAdd, Int.reduceSub, Int.reduceMul, Int.reduceGT, Int.reduceGE, decS, Int.reduceNe, Int.reduceEq]
  refine acK_of (FCall.of (lent := false) (known_ok) (.refl rfl) rfl (by simp)) ?_
  simp -implicitDefEqProofs (maxSteps := 500000) (disch := first | decide | omega) only [↓preS, ↓reduceIte, allS, Nat.reduceBEq, Nat.reduceAdd, Nat.reduceEqDiff, reduceIte, Int.reduceToNat, Int.reduceLE, Int.reduceLT, Nat.reduceLeDiff, Nat.reduceMul, Nat.reducePow, Nat.reduceLT, Int.reduceBEq, Int.reduceBNe, Int.reduceAdd, Int.reduceSub, Int.reduceMul, Int.reduceGT, Int.reduceGE, decS, Int.reduceNe, Int.reduceEq]
  refine acK_of (FCall.of (lent := false) (within_ok a 1000 (by omega) (by omega)) (.refl rfl) rfl (by simp)) ?_
  have w1 := win_rng a 1000 (by omega)
  generalize win a 1000 = n at w1
  simp -implicitDefEqProofs (maxSteps := 500000) (disch := first | decide | omega) only [↓preS, ↓reduceIte, allS, Nat.reduceBEq, Nat.reduceAdd, Nat.reduceEqDiff, reduceIte, Int.reduceToNat, Int.reduceLE, Int.reduceLT, Nat.reduceLeDiff, Nat.reduceMul, Nat.reducePow, Nat.reduceLT, Int.reduceBEq, Int.reduceBNe, Int.reduceAdd, Int.reduceSub, Int.reduceMul, Int.reduceGT, Int.reduceGE, decS, Int.reduceNe, Int.reduceEq]
  refine acK_of (FCall.of (lent := false) (within_ok b 30 (by omega) (by omega)) (.refl rfl) rfl (by simp)) ?_
  have w2 := win_rng b 30 (by omega)
  generalize win b 30 = b at w2
  simp -implicitDefEqProofs (maxSteps := 500000) (disch := first | decide | omega) only [↓preS, ↓reduceIte, allS, Nat.reduceBEq, Nat.reduceAdd, Nat.reduceEqDiff, reduceIte, Int.reduceToNat, Int.reduceLE, Int.reduceLT, Nat.reduceLeDiff, Nat.reduceMul, Nat.reducePow, Nat.reduceLT, Int.reduceBEq, Int.reduceBNe, Int.reduceAdd, Int.reduceSub, Int.reduceMul, Int.reduceGT, Int.reduceGE, decS, Int.reduceNe, Int.reduceEq]
  refine acK_of (FCall.of (lent := false) (within_ok c 4 (by omega) (by omega)) (.refl rfl) rfl (by simp)) ?_
  have w3 := win_rng c 4 (by omega)
  generalize win c 4 = c at w3
  simp -implicitDefEqProofs (maxSteps := 500000) (disch := first | decide | omega) only [↓preS, ↓reduceIte, allS, Nat.reduceBEq, Nat.reduceAdd, Nat.reduceEqDiff, reduceIte, Int.reduceToNat, Int.reduceLE, Int.reduceLT, Nat.reduceLeDiff, Nat.reduceMul, Nat.reducePow, Nat.reduceLT, Int.reduceBEq, Int.reduceBNe, Int.reduceAdd, Int.reduceSub, Int.reduceMul, Int.reduceGT, Int.reduceGE, decS, Int.reduceNe, Int.reduceEq]
  refine acK_of (FCall.of (lent := false) (new_ok) (.refl rfl) rfl (by simp)) ?_
  unfold stC
  simp -implicitDefEqProofs (maxSteps := 500000) (disch := first | decide | omega) only [↓preS, ↓reduceIte, allS, Nat.reduceBEq, Nat.reduceAdd, Nat.reduceEqDiff, reduceIte, Int.reduceToNat, Int.reduceLE, Int.reduceLT, Nat.reduceLeDiff, Nat.reduceMul, Nat.reducePow, Nat.reduceLT, Int.reduceBEq, Int.reduceBNe, Int.reduceAdd, Int.reduceSub, Int.reduceMul, Int.reduceGT, Int.reduceGE, decS, Int.reduceNe, Int.reduceEq, fillOk, fillAV, List.append_nil]
  have cs := fun cs => sil_ok FF (LS (1 + c) (n - b) n cs) (by simp [LS]) (by simp [Apart, LS]) (by simp only [LS]; omega) (by simp only [LS, List.mem_singleton, forall_eq, LA]; omega)
  have ef : ∀ cs, ((LS (1 + c) (n - b) n cs).apps.filter (silP (LS (1 + c) (n - b) n cs).now)).map App.id = if 1 + c = 2 ∧ b ≥ 15 then [7] else [] := by
    intro cs
    have e0 : n - (n - b) = b := by omega
    by_cases h1 : 1 + c = 2
    · by_cases h2 : b ≥ 15
      · simp [LS, LA, silP, h1, h2, e0]
      · simp [LS, LA, silP, h1, h2, e0]
    · simp [LS, LA, silP, h1]
  simp only [ef] at cs
  clear ef
  have e0 : n - (n - b) = b := by omega
  have e3 : (1 + c = 2) = (c = 1) := by rw [eq_iff_iff]; constructor <;> intro <;> omega
  refine cK_split (fun hb => ?_) (fun hb => ?_)
  · simp (disch := omega) only [decide_eq_true_eq, decide_eq_false_iff_not, wrap_i64, beq_iff_eq, bne_iff_ne, beq_eq_false_iff_ne, bne_eq_false_iff_eq, Bool.not_eq_true, Bool.not_eq_false, eq_u32, ne_u32] at hb
    simp -implicitDefEqProofs (maxSteps := 500000) (disch := first | decide | omega) only [↓preS, ↓reduceIte, allS, Nat.reduceBEq, Nat.reduceAdd, Nat.reduceEqDiff, reduceIte, Int.reduceToNat, Int.reduceLE, Int.reduceLT, Nat.reduceLeDiff, Nat.reduceMul, Nat.reducePow, Nat.reduceLT, Int.reduceBEq, Int.reduceBNe, Int.reduceAdd, Int.reduceSub, Int.reduceMul, Int.reduceGT, Int.reduceGE, decS, Int.reduceNe, Int.reduceEq, fillOk, fillAV, List.append_nil]
    refine acK_of (FCall.of (lent := false) (cs [⟨1, 7, 1, 1, 1, 0, 0, true, 0⟩]) (.cons (Vw.wk4 (wkLife _ _ _ [⟨1, 7, 1, 1, 1, 0, 0, true, 0⟩]) rfl) .nil) rfl (by simp)) ?_
    by_cases h2 : b ≥ 15
    · rw [if_pos ⟨hb, h2⟩]
      simp -implicitDefEqProofs (maxSteps := 500000) (disch := first | decide | omega) only [↓preS, ↓reduceIte, allS, Nat.reduceBEq, Nat.reduceAdd, Nat.reduceEqDiff, reduceIte, Int.reduceToNat, Int.reduceLE, Int.reduceLT, Nat.reduceLeDiff, Nat.reduceMul, Nat.reducePow, Nat.reduceLT, Int.reduceBEq, Int.reduceBNe, Int.reduceAdd, Int.reduceSub, Int.reduceMul, Int.reduceGT, Int.reduceGE, decS, Int.reduceNe, Int.reduceEq, e0]
    · rw [if_neg (fun h => h2 h.2)]
      simp -implicitDefEqProofs (maxSteps := 500000) (disch := first | decide | omega) only [↓preS, ↓reduceIte, allS, Nat.reduceBEq, Nat.reduceAdd, Nat.reduceEqDiff, reduceIte, Int.reduceToNat, Int.reduceLE, Int.reduceLT, Nat.reduceLeDiff, Nat.reduceMul, Nat.reducePow, Nat.reduceLT, Int.reduceBEq, Int.reduceBNe, Int.reduceAdd, Int.reduceSub, Int.reduceMul, Int.reduceGT, Int.reduceGE, decS, Int.reduceNe, Int.reduceEq, e0]
  · simp (disch := omega) only [decide_eq_true_eq, decide_eq_false_iff_not, wrap_i64, beq_iff_eq, bne_iff_ne, beq_eq_false_iff_ne, bne_eq_false_iff_eq, Bool.not_eq_true, Bool.not_eq_false, eq_u32, ne_u32] at hb
    simp -implicitDefEqProofs (maxSteps := 500000) (disch := first | decide | omega) only [↓preS, ↓reduceIte, allS, Nat.reduceBEq, Nat.reduceAdd, Nat.reduceEqDiff, reduceIte, Int.reduceToNat, Int.reduceLE, Int.reduceLT, Nat.reduceLeDiff, Nat.reduceMul, Nat.reducePow, Nat.reduceLT, Int.reduceBEq, Int.reduceBNe, Int.reduceAdd, Int.reduceSub, Int.reduceMul, Int.reduceGT, Int.reduceGE, decS, Int.reduceNe, Int.reduceEq]
    refine acK_of (FCall.of (lent := false) (cs []) (.cons (Vw.wk4 (wkLife _ _ _ []) rfl) .nil) rfl (by simp)) ?_
    rw [if_neg (fun h => hb h.1)]
    simp -implicitDefEqProofs (maxSteps := 500000) (disch := first | decide | omega) only [↓preS, ↓reduceIte, allS, Nat.reduceBEq, Nat.reduceAdd, Nat.reduceEqDiff, reduceIte, Int.reduceToNat, Int.reduceLE, Int.reduceLT, Nat.reduceLeDiff, Nat.reduceMul, Nat.reducePow, Nat.reduceLT, Int.reduceBEq, Int.reduceBNe, Int.reduceAdd, Int.reduceSub, Int.reduceMul, Int.reduceGT, Int.reduceGE, decS, Int.reduceNe, Int.reduceEq]
end Go.Proofs.Ytceifhcjbmodaaa
