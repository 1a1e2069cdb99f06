/- What functions of the program compute. No condition. -/
import Derived.Test.YtgpipheibnlkhaaWS1
set_option linter.unusedSimpArgs false
set_option linter.unusedVariables false
namespace Go.Proofs.Ytgpipheibnlkhaa
open Go Go.Ab

theorem outZ_wk : Wk3 (.agg [.int .i64 0, .nils, .nils, .nils, .int .i64 0]) (OUT zeroO) := .inl (.inr ⟨_, _, rfl, rfl, by simp [outC, zeroO, WkL, Wk1]⟩)
theorem goI2_e : ∀ (s : RS), (intsX s).2.e = 0 → s.e = 0 := by
  intro s h
  obtain ⟨g1, g2, g3⟩ := like_ints (a := s) (b := s) ⟨rfl, fun _ => rfl⟩
  exact (ints_inv (g2.trans h)).1
theorem ints_e0 {s : RS} (h : (intsX s).2.e = 0) : s.e = 0 := goI2_e s h

set_option maxRecDepth 20000 in
set_option maxHeartbeats 8000000 in
theorem tail28 (B : List UInt8) (hB : B.length < 2 ^ 62) (e : Int) (s : RS) (hs : Suf B s) (hr : s.e = 0 → 0 ≤ e ∧ e ≤ 19) : aw Try.prog cc28T23 (retR [.ce 2 44 5 true, .tm 3] fun y _ => Wk3 y (parRO (doneO (restO e s)))) ⟨[(2, .ref 0 0 0), (4, .ref 1 0 0), (5, .ref 2 0 0)], [.box [.int .i64 0, .nils, .nils, .nils, .int .i64 0], XS B s, .box [.int .i64 e, .nils, .nils, .nils, .int .i64 0]]⟩ := by
  unfold cc28T23
  have fin : ∀ m t, numO s = (((m : Nat) : Int), t) → ∀ j, j ≤ m → (j = m ∨ (contsN j t).2.e ≠ 0) → doneO (restX e (contsN j t).1 (contsN j t).2) = doneO (restO e s) := by
    intro m t ht j hj hjm
    have e1 : restO e s = restY e (contsN m t).1 (contsN m t).2 := by
      have e0 : restO e s = restY e (contsN (numO s).1.toNat (numO s).2).1 (contsN (numO s).1.toNat (numO s).2).2 := rfl
      rw [e0, ht]
      rfl
    rw [e1]
    refine simO_done ?_
    rcases hjm with rfl | he
    · exact restX_sim _ _ _
    · have h2 : (contsN m t).2.e ≠ 0 := by rw [contsN_stop hj he]; exact he
      unfold SimO
      rw [restX_err he, restY_err h2, contsN_stop hj he]
      exact ⟨rfl, fun h => absurd h he⟩
  have fin2 : ∀ t, (numO s).2 = t → t.e ≠ 0 → ∀ j, doneO (restX e (contsN j t).1 (contsN j t).2) = doneO (restO e s) := by
    intro t ht he j
    have e1 : restO e s = restY e (contsN (numO s).1.toNat t).1 (contsN (numO s).1.toNat t).2 := by
      subst ht
      rfl
    rw [e1]
    refine simO_done ?_
    have h1 : (contsN j t).2.e ≠ 0 := by rw [contsN_err j he]; exact he
    have h2 : (contsN (numO s).1.toNat t).2.e ≠ 0 := by rw [contsN_err _ he]; exact he
    unfold SimO
    rw [restX_err h1, restY_err h2, contsN_err j he, contsN_err _ he]
    exact ⟨rfl, fun h => absurd h he⟩
  have hs1 := suf_int hs
  simp -implicitDefEqProofs (maxSteps := 500000) (disch := first | decide | omega) only [↓preS, ↓reduceIte, allS, Nat.reduceBEq, Nat.reduceAdd, Nat.reduceEqDiff, reduceIte, Int.reduceToNat, Int.reduceLE, Int.reduceLT, Nat.reduceLeDiff, Nat.reduceMul, Nat.reducePow, Nat.reduceLT, Int.reduceBEq, Int.reduceBNe, Int.reduceAdd, Int.reduceSub, Int.reduceMul, Int.reduceGT, Int.reduceGE, decS, Int.reduceNe, Int.reduceEq]
  refine acK_rd (int_x B hB s hs) rfl (fun _ => rfl) (fun _ => rfl) rfl (fun _ => rfl) (fun _ => rfl) rfl ?_
  have en : numO s = if (intR s).1 < 0 ∨ 300 < (intR s).1 then (0, failR (intR s).2 4) else ((intR s).1, (intR s).2) := rfl
  rw [en] at fin fin2
  have hs0 : (intR s).2.e = 0 → s.e = 0 := fun h => (int_inv h).1
  generalize intR s = q at hs1 fin fin2 hs0 ⊢
  obtain ⟨n, t⟩ := q
  simp only at hs1 fin fin2 hs0 ⊢
  have hf : (failR t 4).e ≠ 0 := failR_e (by decide)
  have fl : XS B ⟨t.b, if t.e = 0 then 4 else t.e⟩ = XS B (failR t 4) := rfl
  have three : n < 0 ∨ 300 < n ∨ (¬ n < 0 ∧ ¬ 300 < n) := by omega
  rcases three with h1 | h1 | ⟨h1, h2⟩
  rw [if_pos (.inl h1)] at fin2
  simp -implicitDefEqProofs (maxSteps := 500000) (disch := first | decide | omega) only [↓preS, ↓reduceIte, allS, Nat.reduceBEq, Nat.reduceAdd, Nat.reduceEqDiff, reduceIte, Int.reduceToNat, Int.reduceLE, Int.reduceLT, Nat.reduceLeDiff, Nat.reduceMul, Nat.reducePow, Nat.reduceLT, Int.reduceBEq, Int.reduceBNe, Int.reduceAdd, Int.reduceSub, Int.reduceMul, Int.reduceGT, Int.reduceGE, decS, Int.reduceNe, Int.reduceEq]
  refine acK_rd (fail_x B t 4) rfl (fun _ => rfl) (fun _ => rfl) rfl (fun _ => rfl) (fun _ => rfl) rfl ?_
  rw [fl]
  simp -implicitDefEqProofs (maxSteps := 500000) (disch := first | decide | omega) only [↓preS, ↓reduceIte, allS, Nat.reduceBEq, Nat.reduceAdd, Nat.reduceEqDiff, reduceIte, Int.reduceToNat, Int.reduceLE, Int.reduceLT, Nat.reduceLeDiff, Nat.reduceMul, Nat.reducePow, Nat.reduceLT, Int.reduceBEq, Int.reduceBNe, Int.reduceAdd, Int.reduceSub, Int.reduceMul, Int.reduceGT, Int.reduceGE, decS, Int.reduceNe, Int.reduceEq]
  refine loop28 B hB _ rfl e n (failR t 4) (.inr hf) hs1 _ ?_
  intro j hj hjm
  have hd := fin2 _ rfl hf j
  have hsj := suf_conts j (show Suf B (failR t 4) from hs1)
  have hcl := contsN_len j (failR t 4)
  have hv : (contsN j (failR t 4)).2.e = 0 → 0 ≤ e ∧ e ≤ 19 := fun h => absurd (contsN_inv j h).1 hf
  generalize contsN j (failR t 4) = r1 at hsj hd hcl hv ⊢
  clear fin fin2 hj hjm
  rotate_left
  have h0 : ¬ n < 0 := by omega
  rw [if_pos (.inr h1)] at fin2
  simp -implicitDefEqProofs (maxSteps := 500000) (disch := first | decide | omega) only [↓preS, ↓reduceIte, allS, Nat.reduceBEq, Nat.reduceAdd, Nat.reduceEqDiff, reduceIte, Int.reduceToNat, Int.reduceLE, Int.reduceLT, Nat.reduceLeDiff, Nat.reduceMul, Nat.reducePow, Nat.reduceLT, Int.reduceBEq, Int.reduceBNe, Int.reduceAdd, Int.reduceSub, Int.reduceMul, Int.reduceGT, Int.reduceGE, decS, Int.reduceNe, Int.reduceEq]
  refine acK_rd (fail_x B t 4) rfl (fun _ => rfl) (fun _ => rfl) rfl (fun _ => rfl) (fun _ => rfl) rfl ?_
  rw [fl]
  simp -implicitDefEqProofs (maxSteps := 500000) (disch := first | decide | omega) only [↓preS, ↓reduceIte, allS, Nat.reduceBEq, Nat.reduceAdd, Nat.reduceEqDiff, reduceIte, Int.reduceToNat, Int.reduceLE, Int.reduceLT, Nat.reduceLeDiff, Nat.reduceMul, Nat.reducePow, Nat.reduceLT, Int.reduceBEq, Int.reduceBNe, Int.reduceAdd, Int.reduceSub, Int.reduceMul, Int.reduceGT, Int.reduceGE, decS, Int.reduceNe, Int.reduceEq]
  refine loop28 B hB _ rfl e n (failR t 4) (.inr hf) hs1 _ ?_
  intro j hj hjm
  have hd := fin2 _ rfl hf j
  have hsj := suf_conts j (show Suf B (failR t 4) from hs1)
  have hcl := contsN_len j (failR t 4)
  have hv : (contsN j (failR t 4)).2.e = 0 → 0 ≤ e ∧ e ≤ 19 := fun h => absurd (contsN_inv j h).1 hf
  generalize contsN j (failR t 4) = r1 at hsj hd hcl hv ⊢
  clear fin fin2 hj hjm
  rotate_left
  rw [if_neg (by omega)] at fin
  obtain ⟨m, rfl⟩ : ∃ m : Nat, n = (m : Int) := ⟨n.toNat, by omega⟩
  simp -implicitDefEqProofs (maxSteps := 500000) (disch := first | decide | omega) only [↓preS, ↓reduceIte, allS, Nat.reduceBEq, Nat.reduceAdd, Nat.reduceEqDiff, reduceIte, Int.reduceToNat, Int.reduceLE, Int.reduceLT, Nat.reduceLeDiff, Nat.reduceMul, Nat.reducePow, Nat.reduceLT, Int.reduceBEq, Int.reduceBNe, Int.reduceAdd, Int.reduceSub, Int.reduceMul, Int.reduceGT, Int.reduceGE, decS, Int.reduceNe, Int.reduceEq]
  refine loop28 B hB _ rfl e m t (.inl (by omega)) hs1 _ ?_
  intro j hj hjm
  rw [Int.toNat_natCast] at hj hjm
  have hd := fin m t rfl j hj hjm
  have hsj := suf_conts j hs1
  have hcl := contsN_len j t
  have hv : (contsN j t).2.e = 0 → 0 ≤ e ∧ e ≤ 19 := fun h => hr (hs0 (contsN_inv j h).1)
  generalize contsN j t = r1 at hsj hd hcl hv ⊢
  clear fin fin2 hj hjm
  all_goals
    obtain ⟨cs, v⟩ := r1
    simp only at hsj hd hcl hv ⊢
    rw [← hd]
    have hsi := suf_ints hsj
    have hsg := suf_ints hsi
    have hsk := suf_int hsg
    simp -implicitDefEqProofs (maxSteps := 500000) (disch := first | decide | omega) only [↓preS, ↓reduceIte, allS, Nat.reduceBEq, Nat.reduceAdd, Nat.reduceEqDiff, reduceIte, Int.reduceToNat, Int.reduceLE, Int.reduceLT, Nat.reduceLeDiff, Nat.reduceMul, Nat.reducePow, Nat.reduceLT, Int.reduceBEq, Int.reduceBNe, Int.reduceAdd, Int.reduceSub, Int.reduceMul, Int.reduceGT, Int.reduceGE, decS, Int.reduceNe, Int.reduceEq]
    refine tidyK_frz 3 rfl ?_
    simp -implicitDefEqProofs (maxSteps := 500000) (disch := first | decide | omega) only [↓preS, ↓reduceIte, allS, Nat.reduceBEq, Nat.reduceAdd, Nat.reduceEqDiff, reduceIte, Int.reduceToNat, Int.reduceLE, Int.reduceLT, Nat.reduceLeDiff, Nat.reduceMul, Nat.reducePow, Nat.reduceLT, Int.reduceBEq, Int.reduceBNe, Int.reduceAdd, Int.reduceSub, Int.reduceMul, Int.reduceGT, Int.reduceGE, decS, Int.reduceNe, Int.reduceEq, AO.fz, Own4, fz1_all, fz_XS]
    refine tidyK_done ?_
    simp -implicitDefEqProofs (maxSteps := 500000) (disch := first | decide | omega) only [↓preS, ↓reduceIte, allS, Nat.reduceBEq, Nat.reduceAdd, Nat.reduceEqDiff, reduceIte, Int.reduceToNat, Int.reduceLE, Int.reduceLT, Nat.reduceLeDiff, Nat.reduceMul, Nat.reducePow, Nat.reduceLT, Int.reduceBEq, Int.reduceBNe, Int.reduceAdd, Int.reduceSub, Int.reduceMul, Int.reduceGT, Int.reduceGE, decS, Int.reduceNe, Int.reduceEq]
    refine acK_obj ((ints_x B hB v hsj).to (PP := fun _ _ => False) fun _ _ h => h) rfl rfl rfl rfl rfl ?_ fun _ _ h => h.elim
    rintro y G ⟨rfl, rfl⟩
    simp -implicitDefEqProofs (maxSteps := 500000) (disch := first | decide | omega) only [↓preS, ↓reduceIte, allS, Nat.reduceBEq, Nat.reduceAdd, Nat.reduceEqDiff, reduceIte, Int.reduceToNat, Int.reduceLE, Int.reduceLT, Nat.reduceLeDiff, Nat.reduceMul, Nat.reducePow, Nat.reduceLT, Int.reduceBEq, Int.reduceBNe, Int.reduceAdd, Int.reduceSub, Int.reduceMul, Int.reduceGT, Int.reduceGE, decS, Int.reduceNe, Int.reduceEq, AV.ren, AV.renL, spl_one, AO.ren, XS, XO, ext, List.getElem?_nil, Option.getD_none, Nat.reduceSub]
    have hle := intR_le (intsX (intsX v).2).2
    refine acK_obj ((ints_x B hB (intsX v).2 hsi).to (PP := fun _ _ => False) fun _ _ h => h) rfl rfl rfl rfl rfl ?_ fun _ _ h => h.elim
    rintro y G ⟨rfl, rfl⟩
    simp -implicitDefEqProofs (maxSteps := 500000) (disch := first | decide | omega) only [↓preS, ↓reduceIte, allS, Nat.reduceBEq, Nat.reduceAdd, Nat.reduceEqDiff, reduceIte, Int.reduceToNat, Int.reduceLE, Int.reduceLT, Nat.reduceLeDiff, Nat.reduceMul, Nat.reducePow, Nat.reduceLT, Int.reduceBEq, Int.reduceBNe, Int.reduceAdd, Int.reduceSub, Int.reduceMul, Int.reduceGT, Int.reduceGE, decS, Int.reduceNe, Int.reduceEq, AV.ren, AV.renL, spl_one, AO.ren, XS, XO, ext, List.getElem?_nil, Option.getD_none, Nat.reduceSub]
    refine acK_rd (int_x B hB _ hsg) rfl (fun _ => rfl) (fun _ => rfl) rfl (fun _ => rfl) (fun _ => rfl) rfl ?_
    simp -implicitDefEqProofs (maxSteps := 500000) (disch := first | decide | omega) only [↓preS, ↓reduceIte, allS, Nat.reduceBEq, Nat.reduceAdd, Nat.reduceEqDiff, reduceIte, Int.reduceToNat, Int.reduceLE, Int.reduceLT, Nat.reduceLeDiff, Nat.reduceMul, Nat.reducePow, Nat.reduceLT, Int.reduceBEq, Int.reduceBNe, Int.reduceAdd, Int.reduceSub, Int.reduceMul, Int.reduceGT, Int.reduceGE, decS, Int.reduceNe, Int.reduceEq, XS, XO]
    have hv2 : endE (restX e cs v).2 = 0 → 0 ≤ e ∧ e ≤ 19 := fun h => hv (ints_e0 (ints_e0 (int_inv (endE_zero h)).1))
    have ec : endE (restX e cs v).2 = if (restX e cs v).2.e = 0 ∧ 0 < (restX e cs v).2.b.length then 9 else (restX e cs v).2.e := rfl
    have c := end_x B hB (intR (intsX (intsX v).2).2).2 hsk
    rw [show (intR (intsX (intsX v).2).2).2 = (restX e cs v).2 from rfl] at c
    rw [← ec] at c
    have ew : OUT (restX e cs v).1 = .agg [.int .i64 e, .sl false 9 (cs.map CONT), .sl false 1 ((intsX v).1.map I64), .sl false 1 ((intsX (intsX v).2).1.map I64), .int .i64 (intR (intsX (intsX v).2).2).1] := rfl
    have cw := xwrongO_ok (restX e cs v).1
    rw [ew] at cw
    have hwr : endE (restX e cs v).2 = 0 → wrongO (restX e cs v).1 = if manyO (restX e cs v).1 then 4 else 0 := by
      intro h
      obtain ⟨h1, h2⟩ := hv2 h
      unfold wrongO
      rw [if_neg (show ¬ ((restX e cs v).1.err < 0 ∨ 19 < (restX e cs v).1.err) from by show ¬ (e < 0 ∨ 19 < e); omega)]
    have xe : ∀ s : RS, XO B (B.length - s.b.length) s.e = XS B s := fun _ => rfl
    rw [show (.box [.sl false 1 (B.map U8), .int .i64 ((B.length - (intR (intsX (intsX v).2).2).2.b.length : Nat) : Int), .int .i64 (intR (intsX (intsX v).2).2).2.e] : AO) = XS B (restX e cs v).2 from rfl]
    have edone : doneO (restX e cs v) = if endE (restX e cs v).2 ≠ 0 then (zeroO, endE (restX e cs v).2) else if manyO (restX e cs v).1 then (zeroO, 4) else ((restX e cs v).1, 0) := rfl
    rw [edone]
    have z0 : ∀ k : Int, Wk3 (.tup [.agg [.int .i64 0, .nils, .nils, .nils, .int .i64 0], .int .i64 k]) (parRO (zeroO, k)) := fun k => .inr ⟨_, _, rfl, rfl, wk2_of outZ_wk rfl rfl, .inl (.inl rfl), trivial⟩
    have w1 : parRO ((restX e cs v).1, 0) = .tup [OUT (restX e cs v).1, .int .i64 0] := rfl
    generalize (restX e cs v).2 = u at *
    refine acK_rd (c) rfl (fun _ => rfl) (fun _ => rfl) rfl (fun _ => rfl) (fun _ => rfl) rfl ?_
    by_cases he : endE u = 0
    · rw [if_neg (by simpa using he), he]
      have hq := hwr he
      simp -implicitDefEqProofs (maxSteps := 500000) (disch := first | decide | omega) only [↓preS, ↓reduceIte, allS, Nat.reduceBEq, Nat.reduceAdd, Nat.reduceEqDiff, reduceIte, Int.reduceToNat, Int.reduceLE, Int.reduceLT, Nat.reduceLeDiff, Nat.reduceMul, Nat.reducePow, Nat.reduceLT, Int.reduceBEq, Int.reduceBNe, Int.reduceAdd, Int.reduceSub, Int.reduceMul, Int.reduceGT, Int.reduceGE, decS, Int.reduceNe, Int.reduceEq, outS]
      refine acK_of (FCall.of (lent := false) (cw) (.refl rfl) rfl (by simp)) ?_
      cases hm : manyO (restX e cs v).1
      · rw [hm] at hq
        simp only [Bool.false_eq_true, if_false] at hq
        rw [hq]
        simp -implicitDefEqProofs (maxSteps := 500000) (disch := first | decide | omega) only [↓preS, ↓reduceIte, allS, Nat.reduceBEq, Nat.reduceAdd, Nat.reduceEqDiff, reduceIte, Int.reduceToNat, Int.reduceLE, Int.reduceLT, Nat.reduceLeDiff, Nat.reduceMul, Nat.reducePow, Nat.reduceLT, Int.reduceBEq, Int.reduceBNe, Int.reduceAdd, Int.reduceSub, Int.reduceMul, Int.reduceGT, Int.reduceGE, decS, Int.reduceNe, Int.reduceEq, fillOk, fillAV]
        rw [w1, ew]
        exact .inl (.inl (.inl rfl))
      · rw [hm] at hq
        simp only [if_true] at hq
        rw [hq] at cw ⊢
        simp -implicitDefEqProofs (maxSteps := 500000) (disch := first | decide | omega) only [↓preS, ↓reduceIte, allS, Nat.reduceBEq, Nat.reduceAdd, Nat.reduceEqDiff, reduceIte, Int.reduceToNat, Int.reduceLE, Int.reduceLT, Nat.reduceLeDiff, Nat.reduceMul, Nat.reducePow, Nat.reduceLT, Int.reduceBEq, Int.reduceBNe, Int.reduceAdd, Int.reduceSub, Int.reduceMul, Int.reduceGT, Int.reduceGE, decS, Int.reduceNe, Int.reduceEq, fillOk, fillAV]
        refine acK_of (FCall.of (lent := false) (cw) (.refl rfl) rfl (by simp)) ?_
        simp -implicitDefEqProofs (maxSteps := 500000) (disch := first | decide | omega) only [↓preS, ↓reduceIte, allS, Nat.reduceBEq, Nat.reduceAdd, Nat.reduceEqDiff, reduceIte, Int.reduceToNat, Int.reduceLE, Int.reduceLT, Nat.reduceLeDiff, Nat.reduceMul, Nat.reducePow, Nat.reduceLT, Int.reduceBEq, Int.reduceBNe, Int.reduceAdd, Int.reduceSub, Int.reduceMul, Int.reduceGT, Int.reduceGE, decS, Int.reduceNe, Int.reduceEq, fillOk, fillAV]
        exact z0 _
    · rw [if_pos he]
      simp -implicitDefEqProofs (maxSteps := 500000) (disch := first | decide | omega) only [↓preS, ↓reduceIte, allS, Nat.reduceBEq, Nat.reduceAdd, Nat.reduceEqDiff, reduceIte, Int.reduceToNat, Int.reduceLE, Int.reduceLT, Nat.reduceLeDiff, Nat.reduceMul, Nat.reducePow, Nat.reduceLT, Int.reduceBEq, Int.reduceBNe, Int.reduceAdd, Int.reduceSub, Int.reduceMul, Int.reduceGT, Int.reduceGE, decS, Int.reduceNe, Int.reduceEq, fillOk, fillAV]
      refine acK_rd (c) rfl (fun _ => rfl) (fun _ => rfl) rfl (fun _ => rfl) (fun _ => rfl) rfl ?_
      simp -implicitDefEqProofs (maxSteps := 500000) (disch := first | decide | omega) only [↓preS, ↓reduceIte, allS, Nat.reduceBEq, Nat.reduceAdd, Nat.reduceEqDiff, reduceIte, Int.reduceToNat, Int.reduceLE, Int.reduceLT, Nat.reduceLeDiff, Nat.reduceMul, Nat.reducePow, Nat.reduceLT, Int.reduceBEq, Int.reduceBNe, Int.reduceAdd, Int.reduceSub, Int.reduceMul, Int.reduceGT, Int.reduceGE, decS, Int.reduceNe, Int.reduceEq, fillOk, fillAV]
      exact z0 _

set_option maxRecDepth 20000 in
set_option maxHeartbeats 8000000 in
theorem xparseO_ok (B : List UInt8) (hB : B.length ≤ 2 ^ 40) : PCall Try.prog 28 [SB B] (parRO (parseO B)) := by
  refine PCall.wk3 (acallR_of isR28 (by simp) ?_)
  unfold cc28
  have hB2 : B.length < 2 ^ 62 := by omega
  have h0 : Suf B ⟨B, 0⟩ := ⟨0, by omega, rfl⟩
  simp -implicitDefEqProofs (maxSteps := 500000) (disch := first | decide | omega) only [↓preS, ↓reduceIte, allS, Nat.reduceBEq, Nat.reduceAdd, Nat.reduceEqDiff, reduceIte, Int.reduceToNat, Int.reduceLE, Int.reduceLT, Nat.reduceLeDiff, Nat.reduceMul, Nat.reducePow, Nat.reduceLT, Int.reduceBEq, Int.reduceBNe, Int.reduceAdd, Int.reduceSub, Int.reduceMul, Int.reduceGT, Int.reduceGE, decS, Int.reduceNe, Int.reduceEq, SB]
  refine acK_new (newx_ok B) rfl rfl ?_
  rintro y G ⟨rfl, rfl⟩
  have e1 : (XS B ⟨B, 0⟩).ren (up 1) = XS B ⟨B, 0⟩ := rfl
  simp -implicitDefEqProofs (maxSteps := 500000) (disch := first | decide | omega) only [↓preS, ↓reduceIte, allS, Nat.reduceBEq, Nat.reduceAdd, Nat.reduceEqDiff, reduceIte, Int.reduceToNat, Int.reduceLE, Int.reduceLT, Nat.reduceLeDiff, Nat.reduceMul, Nat.reducePow, Nat.reduceLT, Int.reduceBEq, Int.reduceBNe, Int.reduceAdd, Int.reduceSub, Int.reduceMul, Int.reduceGT, Int.reduceGE, decS, Int.reduceNe, Int.reduceEq, AV.ren, e1, up]
  refine acK_rd (int_x B hB2 ⟨B, 0⟩ h0) rfl (fun _ => rfl) (fun _ => rfl) rfl (fun _ => rfl) (fun _ => rfl) rfl ?_
  have h1 := suf_int h0
  have hp : parseO B = doneO (restO (intR ⟨B, 0⟩).1 (if (intR ⟨B, 0⟩).1 < 0 ∨ 19 < (intR ⟨B, 0⟩).1 then failR (intR ⟨B, 0⟩).2 1 else (intR ⟨B, 0⟩).2)) := rfl
  rw [hp]
  generalize intR ⟨B, 0⟩ = p at h1 ⊢
  obtain ⟨k, u⟩ := p
  simp only at h1 ⊢
  have fl : XS B ⟨u.b, if u.e = 0 then 1 else u.e⟩ = XS B (failR u 1) := rfl
  have hf : (failR u 1).e ≠ 0 := failR_e (by decide)
  by_cases k1 : k < 0
  · rw [if_pos (.inl k1)]
    simp -implicitDefEqProofs (maxSteps := 500000) (disch := first | decide | omega) only [↓preS, ↓reduceIte, allS, Nat.reduceBEq, Nat.reduceAdd, Nat.reduceEqDiff, reduceIte, Int.reduceToNat, Int.reduceLE, Int.reduceLT, Nat.reduceLeDiff, Nat.reduceMul, Nat.reducePow, Nat.reduceLT, Int.reduceBEq, Int.reduceBNe, Int.reduceAdd, Int.reduceSub, Int.reduceMul, Int.reduceGT, Int.reduceGE, decS, Int.reduceNe, Int.reduceEq, fillOk, fillAV]
    refine acK_rd (fail_x B u 1) rfl (fun _ => rfl) (fun _ => rfl) rfl (fun _ => rfl) (fun _ => rfl) rfl ?_
    rw [fl]
    simp -implicitDefEqProofs (maxSteps := 500000) (disch := first | decide | omega) only [↓preS, ↓reduceIte, allS, Nat.reduceBEq, Nat.reduceAdd, Nat.reduceEqDiff, reduceIte, Int.reduceToNat, Int.reduceLE, Int.reduceLT, Nat.reduceLeDiff, Nat.reduceMul, Nat.reducePow, Nat.reduceLT, Int.reduceBEq, Int.reduceBNe, Int.reduceAdd, Int.reduceSub, Int.reduceMul, Int.reduceGT, Int.reduceGE, decS, Int.reduceNe, Int.reduceEq]
    exact tail28 B hB2 k (failR u 1) h1 fun h => absurd h hf
  by_cases k2 : 19 < k
  · rw [if_pos (.inr k2)]
    simp -implicitDefEqProofs (maxSteps := 500000) (disch := first | decide | omega) only [↓preS, ↓reduceIte, allS, Nat.reduceBEq, Nat.reduceAdd, Nat.reduceEqDiff, reduceIte, Int.reduceToNat, Int.reduceLE, Int.reduceLT, Nat.reduceLeDiff, Nat.reduceMul, Nat.reducePow, Nat.reduceLT, Int.reduceBEq, Int.reduceBNe, Int.reduceAdd, Int.reduceSub, Int.reduceMul, Int.reduceGT, Int.reduceGE, decS, Int.reduceNe, Int.reduceEq, fillOk, fillAV]
    refine acK_rd (fail_x B u 1) rfl (fun _ => rfl) (fun _ => rfl) rfl (fun _ => rfl) (fun _ => rfl) rfl ?_
    rw [fl]
    simp -implicitDefEqProofs (maxSteps := 500000) (disch := first | decide | omega) only [↓preS, ↓reduceIte, allS, Nat.reduceBEq, Nat.reduceAdd, Nat.reduceEqDiff, reduceIte, Int.reduceToNat, Int.reduceLE, Int.reduceLT, Nat.reduceLeDiff, Nat.reduceMul, Nat.reducePow, Nat.reduceLT, Int.reduceBEq, Int.reduceBNe, Int.reduceAdd, Int.reduceSub, Int.reduceMul, Int.reduceGT, Int.reduceGE, decS, Int.reduceNe, Int.reduceEq]
    exact tail28 B hB2 k (failR u 1) h1 fun h => absurd h hf
  · rw [if_neg (by omega)]
    simp -implicitDefEqProofs (maxSteps := 500000) (disch := first | decide | omega) only [↓preS, ↓reduceIte, allS, Nat.reduceBEq, Nat.reduceAdd, Nat.reduceEqDiff, reduceIte, Int.reduceToNat, Int.reduceLE, Int.reduceLT, Nat.reduceLeDiff, Nat.reduceMul, Nat.reducePow, Nat.reduceLT, Int.reduceBEq, Int.reduceBNe, Int.reduceAdd, Int.reduceSub, Int.reduceMul, Int.reduceGT, Int.reduceGE, decS, Int.reduceNe, Int.reduceEq, fillOk, fillAV]
    exact tail28 B hB2 k u h1 fun _ => by omega
end Go.Proofs.Ytgpipheibnlkhaa
