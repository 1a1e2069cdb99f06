/- What functions of the program compute. No condition. -/
import Derived.Test.YtceifhcjbmodaaaP14
set_option linter.unusedSimpArgs false
set_option linter.unusedVariables false
namespace Go.Proofs.Ytceifhcjbmodaaa
open Go Go.Ab

def lastT (m : Nat) (L : Nat → Bool) (id : Int) : List App := makeRoom (mkL m L) ++ [newA 0 (askA id)]
theorem room_low {m : Nat} (L : Nat → Bool) (h : m < 16) : makeRoom (mkL m L) = mkL m L := by
  unfold makeRoom
  simp only
  rw [if_neg (by rw [mkL_len]; omega)]
theorem room_full (L : Nat → Bool) {d : Nat} (hd : d < 16) (hf : L d = false) (ha : ∀ i, i < d → L i = true) : makeRoom (mkL 16 L) = delK d (mkL 16 L) := by
  have h1 : idxI (fun a => !liveP a) (mkL 16 L) = (d : Int) := by
    refine idx_at (by rw [mkL_len]; exact hd) (fun i hi => ?_) ?_
    · rw [mkL_get, appAt_live, ha i hi]; rfl
    · rw [mkL_get, appAt_live, hf]; rfl
  unfold makeRoom
  simp only [h1]
  rw [if_pos ⟨by rw [mkL_len]; omega, by omega⟩, Int.toNat_natCast]
theorem delK_len {k : Nat} {l : List App} (h : k < l.length) : (delK k l).length = l.length - 1 := by
  simp [delK]; omega
theorem delK_mem {k : Nat} {m : Nat} {L : Nat → Bool} {a : App} (h : a ∈ delK k (mkL m L)) : ∃ i, i < m ∧ i ≠ k ∧ a = appAt L i := by
  unfold delK at h
  rcases List.mem_append.1 h with h | h
  · obtain ⟨i, hi, rfl⟩ := List.getElem_of_mem h
    rw [List.length_take, mkL_len] at hi
    refine ⟨i, by omega, by omega, ?_⟩
    rw [List.getElem_take, mkL_get]
  · obtain ⟨i, hi, rfl⟩ := List.getElem_of_mem h
    rw [List.length_drop, mkL_len] at hi
    refine ⟨k + 1 + i, by omega, by omega, ?_⟩
    rw [List.getElem_drop, mkL_get]
theorem last_len {m : Nat} (L : Nat → Bool) {low id : Int} (hm : m ≤ 16) (hl : LowI m L low) (hc : cntL m L < 16) : (lastT m L id).length = min (m + 1) 16 := by
  unfold lastT
  rw [List.length_append]
  by_cases h : m < 16
  · rw [room_low L h, mkL_len]
    simp; omega
  · have : m = 16 := by omega
    subst this
    rcases hl with ⟨_, ha⟩ | ⟨d, hd, _, hf, ha⟩
    · have := cntL_of L 16 ha
      omega
    · rw [room_full L hd hf ha, delK_len (by rw [mkL_len]; exact hd), mkL_len]
      rfl
theorem last_find {m : Nat} (L : Nat → Bool) {low id : Int} (hm : m ≤ 16) (hid : 100 ≤ id) (hl : LowI m L low) (hc : cntL m L < 16) :
    (low > 0 ∧ m < 16 ∧ ∃ i, ∃ h : i < (lastT m L id).length, idxI (idP low) (lastT m L id) = (i : Int) ∧ AOk (lastT m L id)[i]) ∨ ((low = 0 ∨ m = 16) ∧ idxI (idP low) (lastT m L id) = -1) := by
  by_cases h : m < 16
  · rcases hl with ⟨rfl, ha⟩ | ⟨d, hd, rfl, hf, ha⟩
    · have e : lastT m L id = mkL m L ++ [newA 0 (askA id)] := by unfold lastT; rw [room_low L h]
      rw [e]
      refine .inr ⟨.inl rfl, idx_no fun i hi => ?_⟩
      rw [idP, beq_eq_false_iff_ne]
      rcases List.mem_append.1 (List.getElem_mem hi) with hx | hx
      · obtain ⟨j, hj, e⟩ := mkL_mem hx
        rw [e, appAt_id]
        omega
      · rw [List.mem_singleton.1 hx]
        show id ≠ 0
        omega
    · have hdl : d < (mkL m L).length := by rw [mkL_len]; exact hd
      have e : lastT m L id = mkL m L ++ [newA 0 (askA id)] := by unfold lastT; rw [room_low L h]
      rw [e]
      have hd2 : d < (mkL m L ++ [newA 0 (askA id)]).length := by rw [List.length_append]; omega
      have hg : ∀ j, (h : j < d) → (mkL m L ++ [newA 0 (askA id)])[j]'(by omega) = appAt L j := fun j hj => by
        rw [List.getElem_append_left (by omega), mkL_get]
      have hgd : (mkL m L ++ [newA 0 (askA id)])[d]'hd2 = appAt L d := by
        rw [List.getElem_append_left hdl, mkL_get]
      refine .inl ⟨by omega, h, d, hd2, idx_at hd2 (fun j hj => ?_) ?_, ?_⟩
      · rw [hg j hj, idP, appAt_id, beq_eq_false_iff_ne]
        omega
      · rw [hgd, idP, appAt_id, beq_self_eq_true]
      · rw [hgd]
        exact appAt_ok L d
  · have : m = 16 := by omega
    subst this
    refine .inr ⟨.inr rfl, ?_⟩
    rcases hl with ⟨_, ha⟩ | ⟨d, hd, rfl, hf, ha⟩
    · have := cntL_of L 16 ha
      omega
    · have e : lastT 16 L id = delK d (mkL 16 L) ++ [newA 0 (askA id)] := by unfold lastT; rw [room_full L hd hf ha]
      rw [e]
      refine idx_no fun i hi => ?_
      have hx := List.getElem_mem hi
      rw [idP, beq_eq_false_iff_ne]
      rcases List.mem_append.1 hx with hx | hx
      · obtain ⟨j, hj, hne, e⟩ := delK_mem hx
        rw [e, appAt_id]
        omega
      · rw [List.mem_singleton.1 hx]
        show id ≠ _
        omega
theorem last_sub {m : Nat} (L : Nat → Bool) {id : Int} (hm : m ≤ 16) (hid : 100 ≤ id) : submitF (MS (mkL m L)) (askA id) = if 16 ≤ cntL m L then (MS (mkL m L), 4) else (MS (lastT m L id), 0) := by
  rw [sub_ok (mkL_lt L (by omega)), mkL_many]
  rfl
set_option maxRecDepth 20000 in
set_option maxHeartbeats 16000000 in
theorem many_rest {m : Nat} (L : Nat → Bool) (low p : Int) (hm : m ≤ 16) (hl : LowI m L low) : aw Try.prog cc4T104 (retQ [6] fun y _ => y = AV.bool true) ⟨[(2, .int .i64 p), (7, .ref 0 0 0), (11, .int .i64 low), (12, .int .i64 (cntL m L : Int))], [.box (stC FF (MS (mkL m L)))]⟩ := by
  unfold cc4T104
  have hcl := cntL_le L m
  have hml := mkL_len m L
  have c6 := within_ok p 50 (by omega) (by omega)
  have w6 := win_rng p 50 (by omega)
  generalize win p 50 = w at c6 w6
  have c9 := submit_ok FF (MS (mkL m L)) (mkL_ok hm L) (by show (mkL m L).length ≤ _; omega) (askA (100 + w)) (askIn _ (by omega) (by omega))
  rw [last_sub L hm (by omega)] at c9
  by_cases hc : 16 ≤ cntL m L
  · rw [if_pos hc] at c9
    refine aw_cut (fun s' => s' = ⟨[(7, .ref 0 0 0), (11, .int .i64 low), (12, .int .i64 (cntL m L : Int)), (17, .ref 1 0 0), (18, .int .i64 4)], [.box (stC FF (MS (mkL m L))), .box (stC FF (MS (mkL m L)))]⟩) ?_ ?_
    · unfold stC at c9 ⊢
      simp -implicitDefEqProofs (maxSteps := 500000) (disch := first | decide | omega) only [↓preS, ↓reduceIte, allS, Nat.reduceBEq, Nat.reduceAdd, Nat.reduceEqDiff, reduceIte, Int.reduceToNat, Int.reduceLE, Int.reduceLT, Nat.reduceLeDiff, Nat.reduceMul, Nat.reducePow, Nat.reduceLT, Int.reduceBEq, Int.reduceBNe, Int.reduceAdd, Int.reduceSub, Int.reduceMul, Int.reduceGT, Int.reduceGE, decS, Int.reduceNe, Int.reduceEq, fillOk, fillAV, List.append_nil]
      repeat' first
        | (refine acK_of (FCall.of (lent := false) c6 (.refl rfl) rfl (by simp)) ?_; simp -implicitDefEqProofs (maxSteps := 500000) (disch := first | decide | omega) only [↓preS, ↓reduceIte, allS, Nat.reduceBEq, Nat.reduceAdd, Nat.reduceEqDiff, reduceIte, Int.reduceToNat, Int.reduceLE, Int.reduceLT, Nat.reduceLeDiff, Nat.reduceMul, Nat.reducePow, Nat.reduceLT, Int.reduceBEq, Int.reduceBNe, Int.reduceAdd, Int.reduceSub, Int.reduceMul, Int.reduceGT, Int.reduceGE, decS, Int.reduceNe, Int.reduceEq, fillOk, fillAV, List.append_nil])
        | (refine acK_of (FCall.of (lent := false) c9 (.cons (.refl rfl) (.cons (Vw.wk (wkQ' _) rfl) .nil)) rfl (by simp)) ?_; simp -implicitDefEqProofs (maxSteps := 500000) (disch := first | decide | omega) only [↓preS, ↓reduceIte, allS, Nat.reduceBEq, Nat.reduceAdd, Nat.reduceEqDiff, reduceIte, Int.reduceToNat, Int.reduceLE, Int.reduceLT, Nat.reduceLeDiff, Nat.reduceMul, Nat.reducePow, Nat.reduceLT, Int.reduceBEq, Int.reduceBNe, Int.reduceAdd, Int.reduceSub, Int.reduceMul, Int.reduceGT, Int.reduceGE, decS, Int.reduceNe, Int.reduceEq, fillOk, fillAV, List.append_nil])
        | apply And.intro
    · rintro s' rfl
      simp -implicitDefEqProofs (maxSteps := 500000) (disch := first | decide | omega) only [↓preS, ↓reduceIte, allS, Nat.reduceBEq, Nat.reduceAdd, Nat.reduceEqDiff, reduceIte, Int.reduceToNat, Int.reduceLE, Int.reduceLT, Nat.reduceLeDiff, Nat.reduceMul, Nat.reducePow, Nat.reduceLT, Int.reduceBEq, Int.reduceBNe, Int.reduceAdd, Int.reduceSub, Int.reduceMul, Int.reduceGT, Int.reduceGE, decS, Int.reduceNe, Int.reduceEq]
  · rw [if_neg hc] at c9
    have ht := last_len (id := 100 + w) L hm hl (by omega)
    have hf := last_find (id := 100 + w) L hm (by omega) hl (by omega)
    generalize lastT m L (100 + w) = T at *
    refine aw_cut (fun s' => s' = ⟨[(7, .ref 0 0 0), (11, .int .i64 low), (12, .int .i64 (cntL m L : Int)), (17, .ref 1 0 0), (18, .int .i64 0)], [.box (stC FF (MS (mkL m L))), .box (stC FF (MS (T)))]⟩) ?_ ?_
    · unfold stC at c9 ⊢
      simp -implicitDefEqProofs (maxSteps := 500000) (disch := first | decide | omega) only [↓preS, ↓reduceIte, allS, Nat.reduceBEq, Nat.reduceAdd, Nat.reduceEqDiff, reduceIte, Int.reduceToNat, Int.reduceLE, Int.reduceLT, Nat.reduceLeDiff, Nat.reduceMul, Nat.reducePow, Nat.reduceLT, Int.reduceBEq, Int.reduceBNe, Int.reduceAdd, Int.reduceSub, Int.reduceMul, Int.reduceGT, Int.reduceGE, decS, Int.reduceNe, Int.reduceEq, fillOk, fillAV, List.append_nil]
      repeat' first
        | (refine acK_of (FCall.of (lent := false) c6 (.refl rfl) rfl (by simp)) ?_; simp -implicitDefEqProofs (maxSteps := 500000) (disch := first | decide | omega) only [↓preS, ↓reduceIte, allS, Nat.reduceBEq, Nat.reduceAdd, Nat.reduceEqDiff, reduceIte, Int.reduceToNat, Int.reduceLE, Int.reduceLT, Nat.reduceLeDiff, Nat.reduceMul, Nat.reducePow, Nat.reduceLT, Int.reduceBEq, Int.reduceBNe, Int.reduceAdd, Int.reduceSub, Int.reduceMul, Int.reduceGT, Int.reduceGE, decS, Int.reduceNe, Int.reduceEq, fillOk, fillAV, List.append_nil])
        | (refine acK_of (FCall.of (lent := false) c9 (.cons (.refl rfl) (.cons (Vw.wk (wkQ' _) rfl) .nil)) rfl (by simp)) ?_; simp -implicitDefEqProofs (maxSteps := 500000) (disch := first | decide | omega) only [↓preS, ↓reduceIte, allS, Nat.reduceBEq, Nat.reduceAdd, Nat.reduceEqDiff, reduceIte, Int.reduceToNat, Int.reduceLE, Int.reduceLT, Nat.reduceLeDiff, Nat.reduceMul, Nat.reducePow, Nat.reduceLT, Int.reduceBEq, Int.reduceBNe, Int.reduceAdd, Int.reduceSub, Int.reduceMul, Int.reduceGT, Int.reduceGE, decS, Int.reduceNe, Int.reduceEq, fillOk, fillAV, List.append_nil])
        | apply And.intro
    · rintro s' rfl
      have ea : (MS (mkL m L)).apps = mkL m L := rfl
      have et : (MS T).apps = T := rfl
      rcases hf with ⟨h1, h2, i, hi, h3, h4⟩ | ⟨h1, h3⟩
      · have c10 := find_ok2 FF (MS T) low (by show T.length < _; omega) i hi h3 h4
        generalize hA : (MS T).apps[i]'hi = A at c10
        unfold stC at c10 ⊢
        simp -implicitDefEqProofs (maxSteps := 500000) (disch := first | decide | omega) only [↓preS, ↓reduceIte, allS, Nat.reduceBEq, Nat.reduceAdd, Nat.reduceEqDiff, reduceIte, Int.reduceToNat, Int.reduceLE, Int.reduceLT, Nat.reduceLeDiff, Nat.reduceMul, Nat.reducePow, Nat.reduceLT, Int.reduceBEq, Int.reduceBNe, Int.reduceAdd, Int.reduceSub, Int.reduceMul, Int.reduceGT, Int.reduceGE, decS, Int.reduceNe, Int.reduceEq, ea, et, appS, appD, List.append_nil]
        refine acK_of (FCall.of (lent := false) (c10) (.refl rfl) rfl (by simp)) ?_
        simp -implicitDefEqProofs (maxSteps := 500000) (disch := first | decide | omega) only [↓preS, ↓reduceIte, allS, Nat.reduceBEq, Nat.reduceAdd, Nat.reduceEqDiff, reduceIte, Int.reduceToNat, Int.reduceLE, Int.reduceLT, Nat.reduceLeDiff, Nat.reduceMul, Nat.reducePow, Nat.reduceLT, Int.reduceBEq, Int.reduceBNe, Int.reduceAdd, Int.reduceSub, Int.reduceMul, Int.reduceGT, Int.reduceGE, decS, Int.reduceNe, Int.reduceEq, ea, et, hml, ht, mm_min, appS, appD, List.append_nil]
      · have c10 := find_no2 FF (MS T) low (by show T.length < _; omega) h3
        unfold NOA stC at *
        by_cases h0 : low > 0
        · simp -implicitDefEqProofs (maxSteps := 500000) (disch := first | decide | omega) only [↓preS, ↓reduceIte, allS, Nat.reduceBEq, Nat.reduceAdd, Nat.reduceEqDiff, reduceIte, Int.reduceToNat, Int.reduceLE, Int.reduceLT, Nat.reduceLeDiff, Nat.reduceMul, Nat.reducePow, Nat.reduceLT, Int.reduceBEq, Int.reduceBNe, Int.reduceAdd, Int.reduceSub, Int.reduceMul, Int.reduceGT, Int.reduceGE, decS, Int.reduceNe, Int.reduceEq, ea, et]
          refine acK_of (FCall.of (lent := false) (c10) (.refl rfl) rfl (by simp)) ?_
          simp -implicitDefEqProofs (maxSteps := 500000) (disch := first | decide | omega) only [↓preS, ↓reduceIte, allS, Nat.reduceBEq, Nat.reduceAdd, Nat.reduceEqDiff, reduceIte, Int.reduceToNat, Int.reduceLE, Int.reduceLT, Nat.reduceLeDiff, Nat.reduceMul, Nat.reducePow, Nat.reduceLT, Int.reduceBEq, Int.reduceBNe, Int.reduceAdd, Int.reduceSub, Int.reduceMul, Int.reduceGT, Int.reduceGE, decS, Int.reduceNe, Int.reduceEq, ea, et, hml, ht, mm_min]
        · simp -implicitDefEqProofs (maxSteps := 500000) (disch := first | decide | omega) only [↓preS, ↓reduceIte, allS, Nat.reduceBEq, Nat.reduceAdd, Nat.reduceEqDiff, reduceIte, Int.reduceToNat, Int.reduceLE, Int.reduceLT, Nat.reduceLeDiff, Nat.reduceMul, Nat.reducePow, Nat.reduceLT, Int.reduceBEq, Int.reduceBNe, Int.reduceAdd, Int.reduceSub, Int.reduceMul, Int.reduceGT, Int.reduceGE, decS, Int.reduceNe, Int.reduceEq, ea, et]
          refine acK_of (FCall.of (lent := false) (c10) (.refl rfl) rfl (by simp)) ?_
          simp -implicitDefEqProofs (maxSteps := 500000) (disch := first | decide | omega) only [↓preS, ↓reduceIte, allS, Nat.reduceBEq, Nat.reduceAdd, Nat.reduceEqDiff, reduceIte, Int.reduceToNat, Int.reduceLE, Int.reduceLT, Nat.reduceLeDiff, Nat.reduceMul, Nat.reducePow, Nat.reduceLT, Int.reduceBEq, Int.reduceBNe, Int.reduceAdd, Int.reduceSub, Int.reduceMul, Int.reduceGT, Int.reduceGE, decS, Int.reduceNe, Int.reduceEq, ea, et, hml, ht, mm_min]
set_option maxRecDepth 20000 in
set_option maxHeartbeats 16000000 in
theorem many_law (n0 : Int) (es : List Int) (hes : es.length < 2 ^ 63) (p : Int) : ACall Try.prog 4 [.int .i64 n0, .sl false 1 (es.map I64), .int .i64 p] [] fun y _ => y = .bool true := by
  refine acall_of is4 (by simp) ?_
  unfold cc4
  simp -implicitDefEqProofs (maxSteps := 500000) (disch := first | decide | omega) only [↓preS, ↓reduceIte, allS, Nat.reduceBEq, Nat.reduceAdd, Nat.reduceEqDiff, reduceIte, Int.reduceToNat, Int.reduceLE, Int.reduceLT, Nat.reduceLeDiff, Nat.reduceMul, Nat.reducePow, Nat.reduceLT, Int.reduceBEq, Int.reduceBNe, Int.reduceAdd, Int.reduceSub, Int.reduceMul, Int.reduceGT, Int.reduceGE, decS, Int.reduceNe, Int.reduceEq]
  refine acK_of (FCall.of (lent := false) (known_ok) (.refl rfl) rfl (by simp)) ?_
  simp -implicitDefEqProofs (maxSteps := 500000) (disch := first | decide | omega) only [↓preS, ↓reduceIte, allS, Nat.reduceBEq, Nat.reduceAdd, Nat.reduceEqDiff, reduceIte, Int.reduceToNat, Int.reduceLE, Int.reduceLT, Nat.reduceLeDiff, Nat.reduceMul, Nat.reducePow, Nat.reduceLT, Int.reduceBEq, Int.reduceBNe, Int.reduceAdd, Int.reduceSub, Int.reduceMul, Int.reduceGT, Int.reduceGE, decS, Int.reduceNe, Int.reduceEq]
  refine acK_of (FCall.of (lent := false) (within_ok n0 20 (by omega) (by omega)) (.refl rfl) rfl (by simp)) ?_
  have w1 := win_rng n0 20 (by omega)
  generalize win n0 20 = n at w1
  obtain ⟨n, rfl⟩ : ∃ k : Nat, n = (k : Int) := ⟨n.toNat, by omega⟩
  simp -implicitDefEqProofs (maxSteps := 500000) (disch := first | decide | omega) only [↓preS, ↓reduceIte, allS, Nat.reduceBEq, Nat.reduceAdd, Nat.reduceEqDiff, reduceIte, Int.reduceToNat, Int.reduceLE, Int.reduceLT, Nat.reduceLeDiff, Nat.reduceMul, Nat.reducePow, Nat.reduceLT, Int.reduceBEq, Int.reduceBNe, Int.reduceAdd, Int.reduceSub, Int.reduceMul, Int.reduceGT, Int.reduceGE, decS, Int.reduceNe, Int.reduceEq]
  refine acK_of (FCall.of (lent := false) (new_ok) (.refl rfl) rfl (by simp)) ?_
  unfold stC
  simp -implicitDefEqProofs (maxSteps := 500000) (disch := first | decide | omega) only [↓preS, ↓reduceIte, allS, Nat.reduceBEq, Nat.reduceAdd, Nat.reduceEqDiff, reduceIte, Int.reduceToNat, Int.reduceLE, Int.reduceLT, Nat.reduceLeDiff, Nat.reduceMul, Nat.reducePow, Nat.reduceLT, Int.reduceBEq, Int.reduceBNe, Int.reduceAdd, Int.reduceSub, Int.reduceMul, Int.reduceGT, Int.reduceGE, decS, Int.reduceNe, Int.reduceEq]
  unfold cc4L1
  simp -implicitDefEqProofs (maxSteps := 500000) (disch := first | decide | omega) only [↓preS, ↓reduceIte, allS, Nat.reduceBEq, Nat.reduceAdd, Nat.reduceEqDiff, reduceIte, Int.reduceToNat, Int.reduceLE, Int.reduceLT, Nat.reduceLeDiff, Nat.reduceMul, Nat.reducePow, Nat.reduceLT, Int.reduceBEq, Int.reduceBNe, Int.reduceAdd, Int.reduceSub, Int.reduceMul, Int.reduceGT, Int.reduceGE, decS, Int.reduceNe, Int.reduceEq]
  refine aw_loopS (σ := Nat) (fun k => ⟨[(0, .int .i64 n), (1, .sl false 1 (es.map I64)), (2, .int .i64 p), (7, .ref 0 0 0), (8, .int .i64 (k : Int))], [.box (stC FF (MS (mkL (min k 16) allL)))]⟩)
    (fun k => k ≤ n) (fun k => n - k) 0 (.inl rfl) (by omega) ?_
  · intro k hk
    unfold cc4l1
    by_cases hkn : k < n
    · have c9 := submit_ok FF (MS (mkL (min k 16) allL)) (mkL_ok (by omega) _) (by simp [MS, mkL_len]; omega) (askA (10 + (k : Int))) (askIn _ (by omega) (by omega))
      by_cases h16 : k < 16
      · have e1 : min k 16 = k := by omega
        have e2 : min (k + 1) 16 = k + 1 := by omega
        rw [e1] at c9 ⊢
        rw [sub_low h16] at c9
        unfold stC at c9 ⊢
        simp -implicitDefEqProofs (maxSteps := 500000) (disch := first | decide | omega) only [↓preS, ↓reduceIte, allS, Nat.reduceBEq, Nat.reduceAdd, Nat.reduceEqDiff, reduceIte, Int.reduceToNat, Int.reduceLE, Int.reduceLT, Nat.reduceLeDiff, Nat.reduceMul, Nat.reducePow, Nat.reduceLT, Int.reduceBEq, Int.reduceBNe, Int.reduceAdd, Int.reduceSub, Int.reduceMul, Int.reduceGT, Int.reduceGE, decS, Int.reduceNe, Int.reduceEq, fillOk, fillAV, List.append_nil]
        refine acK_of (FCall.of (lent := false) c9 (.cons (.refl rfl) (.cons (Vw.wk (wkQ' _) rfl) .nil)) rfl (by simp)) ?_
        simp -implicitDefEqProofs (maxSteps := 500000) (disch := first | decide | omega) only [↓preS, ↓reduceIte, allS, Nat.reduceBEq, Nat.reduceAdd, Nat.reduceEqDiff, reduceIte, Int.reduceToNat, Int.reduceLE, Int.reduceLT, Nat.reduceLeDiff, Nat.reduceMul, Nat.reducePow, Nat.reduceLT, Int.reduceBEq, Int.reduceBNe, Int.reduceAdd, Int.reduceSub, Int.reduceMul, Int.reduceGT, Int.reduceGE, decS, Int.reduceNe, Int.reduceEq, fillOk, fillAV, List.append_nil]
        refine ⟨k + 1, ?_, by omega, by omega⟩
        rw [e2]
        (refine Sub.ofL [some 0] rfl (by simp) (by decide) (by simp [partL, AO.ro, AV.ro, AV.roL, names, AO.empty, SB, U8, SI, I64, STR] <;> (try and_intros) <;> rfl) (by simp [AO.bo, AV.bo, AV.boL, names] <;> (try and_intros) <;> rfl) ?_ <;> (try simp only [List.map_cons, List.map_nil, regsL, AV.ro, AV.roL, AV.bo, AV.boL, names, get_here, get_there, Nat.reduceBEq, List.getD_cons_zero, List.getD_cons_succ, List.getD_nil, and_true, true_and, Nat.reduceLT, List.length_cons, List.length_nil, Nat.reduceAdd, decide_true, Option.isSome_some, Bool.true_or, Bool.and_self, Option.isSome_none, Bool.false_or, beq_self_eq_true, wk0_self, wk0_nils]) <;> (try and_intros) <;> (first | done | rfl | exact .inl rfl | exact .inr ⟨rfl, _, _, rfl⟩ | (simp; done) | (simp; omega) | (refine .inl ?_; simp; done) | (refine .inl ?_; simp; omega)))
      · have e1 : min k 16 = 16 := by omega
        have e2 : min (k + 1) 16 = 16 := by omega
        rw [e1] at c9 ⊢
        rw [sub_high (by omega)] at c9
        unfold stC at c9 ⊢
        simp -implicitDefEqProofs (maxSteps := 500000) (disch := first | decide | omega) only [↓preS, ↓reduceIte, allS, Nat.reduceBEq, Nat.reduceAdd, Nat.reduceEqDiff, reduceIte, Int.reduceToNat, Int.reduceLE, Int.reduceLT, Nat.reduceLeDiff, Nat.reduceMul, Nat.reducePow, Nat.reduceLT, Int.reduceBEq, Int.reduceBNe, Int.reduceAdd, Int.reduceSub, Int.reduceMul, Int.reduceGT, Int.reduceGE, decS, Int.reduceNe, Int.reduceEq, fillOk, fillAV, List.append_nil]
        refine acK_of (FCall.of (lent := false) c9 (.cons (.refl rfl) (.cons (Vw.wk (wkQ' _) rfl) .nil)) rfl (by simp)) ?_
        simp -implicitDefEqProofs (maxSteps := 500000) (disch := first | decide | omega) only [↓preS, ↓reduceIte, allS, Nat.reduceBEq, Nat.reduceAdd, Nat.reduceEqDiff, reduceIte, Int.reduceToNat, Int.reduceLE, Int.reduceLT, Nat.reduceLeDiff, Nat.reduceMul, Nat.reducePow, Nat.reduceLT, Int.reduceBEq, Int.reduceBNe, Int.reduceAdd, Int.reduceSub, Int.reduceMul, Int.reduceGT, Int.reduceGE, decS, Int.reduceNe, Int.reduceEq, fillOk, fillAV, List.append_nil]
        refine ⟨k + 1, ?_, by omega, by omega⟩
        rw [e2]
        (refine Sub.ofL [some 0] rfl (by simp) (by decide) (by simp [partL, AO.ro, AV.ro, AV.roL, names, AO.empty, SB, U8, SI, I64, STR] <;> (try and_intros) <;> rfl) (by simp [AO.bo, AV.bo, AV.boL, names] <;> (try and_intros) <;> rfl) ?_ <;> (try simp only [List.map_cons, List.map_nil, regsL, AV.ro, AV.roL, AV.bo, AV.boL, names, get_here, get_there, Nat.reduceBEq, List.getD_cons_zero, List.getD_cons_succ, List.getD_nil, and_true, true_and, Nat.reduceLT, List.length_cons, List.length_nil, Nat.reduceAdd, decide_true, Option.isSome_some, Bool.true_or, Bool.and_self, Option.isSome_none, Bool.false_or, beq_self_eq_true, wk0_self, wk0_nils]) <;> (try and_intros) <;> (first | done | rfl | exact .inl rfl | exact .inr ⟨rfl, _, _, rfl⟩ | (simp; done) | (simp; omega) | (refine .inl ?_; simp; done) | (refine .inl ?_; simp; omega)))
    · have : k = n := by omega
      subst this
      unfold stC
      simp -implicitDefEqProofs (maxSteps := 500000) (disch := first | decide | omega) only [↓preS, ↓reduceIte, allS, Nat.reduceBEq, Nat.reduceAdd, Nat.reduceEqDiff, reduceIte, Int.reduceToNat, Int.reduceLE, Int.reduceLT, Nat.reduceLeDiff, Nat.reduceMul, Nat.reducePow, Nat.reduceLT, Int.reduceBEq, Int.reduceBNe, Int.reduceAdd, Int.reduceSub, Int.reduceMul, Int.reduceGT, Int.reduceGE, decS, Int.reduceNe, Int.reduceEq]
      generalize hm : min k 16 = m
      have hmz : min (k : Int) 16 = (m : Int) := by omega
      have hm16 : m ≤ 16 := by omega
      simp -implicitDefEqProofs (maxSteps := 500000) (disch := first | decide | omega) only [↓preS, ↓reduceIte, allS, Nat.reduceBEq, Nat.reduceAdd, Nat.reduceEqDiff, reduceIte, Int.reduceToNat, Int.reduceLE, Int.reduceLT, Nat.reduceLeDiff, Nat.reduceMul, Nat.reducePow, Nat.reduceLT, Int.reduceBEq, Int.reduceBNe, Int.reduceAdd, Int.reduceSub, Int.reduceMul, Int.reduceGT, Int.reduceGE, decS, Int.reduceNe, Int.reduceEq, mm_min, hmz]
      unfold cc4L0
      simp -implicitDefEqProofs (maxSteps := 500000) (disch := first | decide | omega) only [↓preS, ↓reduceIte, allS, Nat.reduceBEq, Nat.reduceAdd, Nat.reduceEqDiff, reduceIte, Int.reduceToNat, Int.reduceLE, Int.reduceLT, Nat.reduceLeDiff, Nat.reduceMul, Nat.reducePow, Nat.reduceLT, Int.reduceBEq, Int.reduceBNe, Int.reduceAdd, Int.reduceSub, Int.reduceMul, Int.reduceGT, Int.reduceGE, decS, Int.reduceNe, Int.reduceEq]
      refine aw_loopS (σ := Nat × (Nat → Bool) × Int) (fun q => ⟨[(0, .int .i64 k), (1, .sl false 1 (es.map I64)), (2, .int .i64 p), (7, .ref 0 0 0), (11, .int .i64 q.2.2), (12, .int .i64 (cntL m q.2.1 : Int)), (13, .int .i64 (q.1 : Int))], [.box (stC FF (MS (mkL m q.2.1)))]⟩)
        (fun q => q.1 ≤ es.length ∧ q.1 ≤ 10 ∧ LowI m q.2.1 q.2.2) (fun q => 10 - q.1) (0, allL, 0) ?_ ⟨by simp, by simp, .inl ⟨rfl, fun i hi => rfl⟩⟩ ?_
      · simp only [cntL_all]
        exact .inl rfl
      rintro ⟨i, L, low⟩ ⟨hi1, hi2, hlow⟩
      simp only at hi1 hi2 hlow ⊢
      have hcl := cntL_le L m
      have hml := mkL_len m L
      unfold cc4l0
      by_cases hgo : i < es.length ∧ i < 10 ∧ 0 < k
      · obtain ⟨hil, hi10, hk0⟩ := hgo
        have hg : es.getD i default = es[i] := by simp [hil]
        have cw := within_ok es[i] m (by omega) (by omega)
        have ww := win_rng es[i] m (by omega)
        generalize win es[i] m = w at cw ww
        obtain ⟨w, rfl⟩ : ∃ k : Nat, w = (k : Int) := ⟨w.toNat, by omega⟩
        have hw : w < m := by omega
        have hwl : w < (mkL m L).length := by rw [mkL_len]; exact hw
        have c10 : PCall Try.prog 10 [.agg (stC FF (MS (mkL m L))), .int .i64 (10 + (w : Int))] (.tup [APP (appAt L w), .bool true]) := by
          have e : (mkL m L)[w] = appAt L w := mkL_get _
          have h := find_ok2 FF (MS (mkL m L)) (10 + (w : Int)) (by show (mkL m L).length < _; omega) w hwl (mkL_idx L hw) (by show AOk (mkL m L)[w]; rw [e]; exact appAt_ok L w)
          have e2 : (MS (mkL m L)).apps[w]'hwl = appAt L w := e
          rw [e2] at h
          exact h
        have c11 := live_ok (appAt L w)
        rw [appAt_live] at c11
        have c12 := end_ok FF (MS (mkL m L)) (mkL_ok hm16 L) rfl rfl (by show (mkL m L).length ≤ _; omega) (10 + (w : Int)) 4
        generalize hA : appAt L w = A at *
        cases hL : L w
        · rw [hL] at c11
          unfold stC at c10 ⊢
          simp -implicitDefEqProofs (maxSteps := 500000) (disch := first | decide | omega) only [↓preS, ↓reduceIte, allS, Nat.reduceBEq, Nat.reduceAdd, Nat.reduceEqDiff, reduceIte, Int.reduceToNat, Int.reduceLE, Int.reduceLT, Nat.reduceLeDiff, Nat.reduceMul, Nat.reducePow, Nat.reduceLT, Int.reduceBEq, Int.reduceBNe, Int.reduceAdd, Int.reduceSub, Int.reduceMul, Int.reduceGT, Int.reduceGE, decS, Int.reduceNe, Int.reduceEq, hg, mm_min, hmz]
          refine ⟨by omega, by omega, ?_⟩
          refine acK_of (FCall.of (lent := false) (cw) (.refl rfl) rfl (by simp)) ?_
          simp -implicitDefEqProofs (maxSteps := 500000) (disch := first | decide | omega) only [↓preS, ↓reduceIte, allS, Nat.reduceBEq, Nat.reduceAdd, Nat.reduceEqDiff, reduceIte, Int.reduceToNat, Int.reduceLE, Int.reduceLT, Nat.reduceLeDiff, Nat.reduceMul, Nat.reducePow, Nat.reduceLT, Int.reduceBEq, Int.reduceBNe, Int.reduceAdd, Int.reduceSub, Int.reduceMul, Int.reduceGT, Int.reduceGE, decS, Int.reduceNe, Int.reduceEq]
          refine acK_of (FCall.of (lent := false) (c10) (.refl rfl) rfl (by simp)) ?_
          simp -implicitDefEqProofs (maxSteps := 500000) (disch := first | decide | omega) only [↓preS, ↓reduceIte, allS, Nat.reduceBEq, Nat.reduceAdd, Nat.reduceEqDiff, reduceIte, Int.reduceToNat, Int.reduceLE, Int.reduceLT, Nat.reduceLeDiff, Nat.reduceMul, Nat.reducePow, Nat.reduceLT, Int.reduceBEq, Int.reduceBNe, Int.reduceAdd, Int.reduceSub, Int.reduceMul, Int.reduceGT, Int.reduceGE, decS, Int.reduceNe, Int.reduceEq, appS, appD, List.append_nil]
          refine acK_of (FCall.of (lent := false) (c11) (.refl rfl) rfl (by simp)) ?_
          simp -implicitDefEqProofs (maxSteps := 500000) (disch := first | decide | omega) only [↓preS, ↓reduceIte, allS, Nat.reduceBEq, Nat.reduceAdd, Nat.reduceEqDiff, reduceIte, Int.reduceToNat, Int.reduceLE, Int.reduceLT, Nat.reduceLeDiff, Nat.reduceMul, Nat.reducePow, Nat.reduceLT, Int.reduceBEq, Int.reduceBNe, Int.reduceAdd, Int.reduceSub, Int.reduceMul, Int.reduceGT, Int.reduceGE, decS, Int.reduceNe, Int.reduceEq]
          refine ⟨(i + 1, L, low), ?_, ⟨by simp only; omega, by simp only; omega, hlow⟩, by simp only; omega⟩
          simp only
          (refine Sub.ofL [some 0] rfl (by simp) (by decide) (by simp [partL, AO.ro, AV.ro, AV.roL, names, AO.empty, SB, U8, SI, I64, STR] <;> (try and_intros) <;> rfl) (by simp [AO.bo, AV.bo, AV.boL, names] <;> (try and_intros) <;> rfl) ?_ <;> (try simp only [List.map_cons, List.map_nil, regsL, AV.ro, AV.roL, AV.bo, AV.boL, names, get_here, get_there, Nat.reduceBEq, List.getD_cons_zero, List.getD_cons_succ, List.getD_nil, and_true, true_and, Nat.reduceLT, List.length_cons, List.length_nil, Nat.reduceAdd, decide_true, Option.isSome_some, Bool.true_or, Bool.and_self, Option.isSome_none, Bool.false_or, beq_self_eq_true, wk0_self, wk0_nils]) <;> (try and_intros) <;> (first | done | rfl | exact .inl rfl | exact .inr ⟨rfl, _, _, rfl⟩ | (simp; done) | (simp; omega) | (refine .inl ?_; simp; done) | (refine .inl ?_; simp; omega)))
        · rw [hL] at c11
          rw [end_at L hw hL] at c12
          have hn := low_new hlow hw hL
          have hco := cntL_off L w hL m hw
          have hco2 : (cntL m L : Int) - 1 = (cntL m (offL L w) : Int) := by omega
          unfold stC at c10 c12 ⊢
          by_cases h0 : low = 0
          · rw [if_pos (.inl h0)] at hn
            simp -implicitDefEqProofs (maxSteps := 500000) (disch := first | decide | omega) only [↓preS, ↓reduceIte, allS, Nat.reduceBEq, Nat.reduceAdd, Nat.reduceEqDiff, reduceIte, Int.reduceToNat, Int.reduceLE, Int.reduceLT, Nat.reduceLeDiff, Nat.reduceMul, Nat.reducePow, Nat.reduceLT, Int.reduceBEq, Int.reduceBNe, Int.reduceAdd, Int.reduceSub, Int.reduceMul, Int.reduceGT, Int.reduceGE, decS, Int.reduceNe, Int.reduceEq, hg, mm_min, hmz]
            refine ⟨by omega, by omega, ?_⟩
            refine acK_of (FCall.of (lent := false) (cw) (.refl rfl) rfl (by simp)) ?_
            simp -implicitDefEqProofs (maxSteps := 500000) (disch := first | decide | omega) only [↓preS, ↓reduceIte, allS, Nat.reduceBEq, Nat.reduceAdd, Nat.reduceEqDiff, reduceIte, Int.reduceToNat, Int.reduceLE, Int.reduceLT, Nat.reduceLeDiff, Nat.reduceMul, Nat.reducePow, Nat.reduceLT, Int.reduceBEq, Int.reduceBNe, Int.reduceAdd, Int.reduceSub, Int.reduceMul, Int.reduceGT, Int.reduceGE, decS, Int.reduceNe, Int.reduceEq]
            refine acK_of (FCall.of (lent := false) (c10) (.refl rfl) rfl (by simp)) ?_
            simp -implicitDefEqProofs (maxSteps := 500000) (disch := first | decide | omega) only [↓preS, ↓reduceIte, allS, Nat.reduceBEq, Nat.reduceAdd, Nat.reduceEqDiff, reduceIte, Int.reduceToNat, Int.reduceLE, Int.reduceLT, Nat.reduceLeDiff, Nat.reduceMul, Nat.reducePow, Nat.reduceLT, Int.reduceBEq, Int.reduceBNe, Int.reduceAdd, Int.reduceSub, Int.reduceMul, Int.reduceGT, Int.reduceGE, decS, Int.reduceNe, Int.reduceEq, appS, appD, List.append_nil]
            refine acK_of (FCall.of (lent := false) (c11) (.refl rfl) rfl (by simp)) ?_
            simp -implicitDefEqProofs (maxSteps := 500000) (disch := first | decide | omega) only [↓preS, ↓reduceIte, allS, Nat.reduceBEq, Nat.reduceAdd, Nat.reduceEqDiff, reduceIte, Int.reduceToNat, Int.reduceLE, Int.reduceLT, Nat.reduceLeDiff, Nat.reduceMul, Nat.reducePow, Nat.reduceLT, Int.reduceBEq, Int.reduceBNe, Int.reduceAdd, Int.reduceSub, Int.reduceMul, Int.reduceGT, Int.reduceGE, decS, Int.reduceNe, Int.reduceEq]
            refine acK_of (FCall.of (lent := false) (c12) (.refl rfl) rfl (by simp)) ?_
            simp -implicitDefEqProofs (maxSteps := 500000) (disch := first | decide | omega) only [↓preS, ↓reduceIte, allS, Nat.reduceBEq, Nat.reduceAdd, Nat.reduceEqDiff, reduceIte, Int.reduceToNat, Int.reduceLE, Int.reduceLT, Nat.reduceLeDiff, Nat.reduceMul, Nat.reducePow, Nat.reduceLT, Int.reduceBEq, Int.reduceBNe, Int.reduceAdd, Int.reduceSub, Int.reduceMul, Int.reduceGT, Int.reduceGE, decS, Int.reduceNe, Int.reduceEq, hco2]
            refine ⟨(i + 1, offL L w, 10 + (w : Int)), ?_, ⟨by simp only; omega, by simp only; omega, hn⟩, by simp only; omega⟩
            simp only
            (refine Sub.ofL [some 0] rfl (by simp) (by decide) (by simp [partL, AO.ro, AV.ro, AV.roL, names, AO.empty, SB, U8, SI, I64, STR] <;> (try and_intros) <;> rfl) (by simp [AO.bo, AV.bo, AV.boL, names] <;> (try and_intros) <;> rfl) ?_ <;> (try simp only [List.map_cons, List.map_nil, regsL, AV.ro, AV.roL, AV.bo, AV.boL, names, get_here, get_there, Nat.reduceBEq, List.getD_cons_zero, List.getD_cons_succ, List.getD_nil, and_true, true_and, Nat.reduceLT, List.length_cons, List.length_nil, Nat.reduceAdd, decide_true, Option.isSome_some, Bool.true_or, Bool.and_self, Option.isSome_none, Bool.false_or, beq_self_eq_true, wk0_self, wk0_nils]) <;> (try and_intros) <;> (first | done | rfl | exact .inl rfl | exact .inr ⟨rfl, _, _, rfl⟩ | (simp; done) | (simp; omega) | (refine .inl ?_; simp; done) | (refine .inl ?_; simp; omega)))
          · by_cases hlt : 10 + (w : Int) < low
            · rw [if_pos (.inr hlt)] at hn
              simp -implicitDefEqProofs (maxSteps := 500000) (disch := first | decide | omega) only [↓preS, ↓reduceIte, allS, Nat.reduceBEq, Nat.reduceAdd, Nat.reduceEqDiff, reduceIte, Int.reduceToNat, Int.reduceLE, Int.reduceLT, Nat.reduceLeDiff, Nat.reduceMul, Nat.reducePow, Nat.reduceLT, Int.reduceBEq, Int.reduceBNe, Int.reduceAdd, Int.reduceSub, Int.reduceMul, Int.reduceGT, Int.reduceGE, decS, Int.reduceNe, Int.reduceEq, hg, mm_min, hmz]
              refine ⟨by omega, by omega, ?_⟩
              refine acK_of (FCall.of (lent := false) (cw) (.refl rfl) rfl (by simp)) ?_
              simp -implicitDefEqProofs (maxSteps := 500000) (disch := first | decide | omega) only [↓preS, ↓reduceIte, allS, Nat.reduceBEq, Nat.reduceAdd, Nat.reduceEqDiff, reduceIte, Int.reduceToNat, Int.reduceLE, Int.reduceLT, Nat.reduceLeDiff, Nat.reduceMul, Nat.reducePow, Nat.reduceLT, Int.reduceBEq, Int.reduceBNe, Int.reduceAdd, Int.reduceSub, Int.reduceMul, Int.reduceGT, Int.reduceGE, decS, Int.reduceNe, Int.reduceEq]
              refine acK_of (FCall.of (lent := false) (c10) (.refl rfl) rfl (by simp)) ?_
              simp -implicitDefEqProofs (maxSteps := 500000) (disch := first | decide | omega) only [↓preS, ↓reduceIte, allS, Nat.reduceBEq, Nat.reduceAdd, Nat.reduceEqDiff, reduceIte, Int.reduceToNat, Int.reduceLE, Int.reduceLT, Nat.reduceLeDiff, Nat.reduceMul, Nat.reducePow, Nat.reduceLT, Int.reduceBEq, Int.reduceBNe, Int.reduceAdd, Int.reduceSub, Int.reduceMul, Int.reduceGT, Int.reduceGE, decS, Int.reduceNe, Int.reduceEq, appS, appD, List.append_nil]
              refine acK_of (FCall.of (lent := false) (c11) (.refl rfl) rfl (by simp)) ?_
              simp -implicitDefEqProofs (maxSteps := 500000) (disch := first | decide | omega) only [↓preS, ↓reduceIte, allS, Nat.reduceBEq, Nat.reduceAdd, Nat.reduceEqDiff, reduceIte, Int.reduceToNat, Int.reduceLE, Int.reduceLT, Nat.reduceLeDiff, Nat.reduceMul, Nat.reducePow, Nat.reduceLT, Int.reduceBEq, Int.reduceBNe, Int.reduceAdd, Int.reduceSub, Int.reduceMul, Int.reduceGT, Int.reduceGE, decS, Int.reduceNe, Int.reduceEq]
              refine acK_of (FCall.of (lent := false) (c12) (.refl rfl) rfl (by simp)) ?_
              simp -implicitDefEqProofs (maxSteps := 500000) (disch := first | decide | omega) only [↓preS, ↓reduceIte, allS, Nat.reduceBEq, Nat.reduceAdd, Nat.reduceEqDiff, reduceIte, Int.reduceToNat, Int.reduceLE, Int.reduceLT, Nat.reduceLeDiff, Nat.reduceMul, Nat.reducePow, Nat.reduceLT, Int.reduceBEq, Int.reduceBNe, Int.reduceAdd, Int.reduceSub, Int.reduceMul, Int.reduceGT, Int.reduceGE, decS, Int.reduceNe, Int.reduceEq, hco2]
              refine ⟨(i + 1, offL L w, 10 + (w : Int)), ?_, ⟨by simp only; omega, by simp only; omega, hn⟩, by simp only; omega⟩
              simp only
              (refine Sub.ofL [some 0] rfl (by simp) (by decide) (by simp [partL, AO.ro, AV.ro, AV.roL, names, AO.empty, SB, U8, SI, I64, STR] <;> (try and_intros) <;> rfl) (by simp [AO.bo, AV.bo, AV.boL, names] <;> (try and_intros) <;> rfl) ?_ <;> (try simp only [List.map_cons, List.map_nil, regsL, AV.ro, AV.roL, AV.bo, AV.boL, names, get_here, get_there, Nat.reduceBEq, List.getD_cons_zero, List.getD_cons_succ, List.getD_nil, and_true, true_and, Nat.reduceLT, List.length_cons, List.length_nil, Nat.reduceAdd, decide_true, Option.isSome_some, Bool.true_or, Bool.and_self, Option.isSome_none, Bool.false_or, beq_self_eq_true, wk0_self, wk0_nils]) <;> (try and_intros) <;> (first | done | rfl | exact .inl rfl | exact .inr ⟨rfl, _, _, rfl⟩ | (simp; done) | (simp; omega) | (refine .inl ?_; simp; done) | (refine .inl ?_; simp; omega)))
            · rw [if_neg (by omega)] at hn
              simp -implicitDefEqProofs (maxSteps := 500000) (disch := first | decide | omega) only [↓preS, ↓reduceIte, allS, Nat.reduceBEq, Nat.reduceAdd, Nat.reduceEqDiff, reduceIte, Int.reduceToNat, Int.reduceLE, Int.reduceLT, Nat.reduceLeDiff, Nat.reduceMul, Nat.reducePow, Nat.reduceLT, Int.reduceBEq, Int.reduceBNe, Int.reduceAdd, Int.reduceSub, Int.reduceMul, Int.reduceGT, Int.reduceGE, decS, Int.reduceNe, Int.reduceEq, hg, mm_min, hmz]
              refine ⟨by omega, by omega, ?_⟩
              refine acK_of (FCall.of (lent := false) (cw) (.refl rfl) rfl (by simp)) ?_
              simp -implicitDefEqProofs (maxSteps := 500000) (disch := first | decide | omega) only [↓preS, ↓reduceIte, allS, Nat.reduceBEq, Nat.reduceAdd, Nat.reduceEqDiff, reduceIte, Int.reduceToNat, Int.reduceLE, Int.reduceLT, Nat.reduceLeDiff, Nat.reduceMul, Nat.reducePow, Nat.reduceLT, Int.reduceBEq, Int.reduceBNe, Int.reduceAdd, Int.reduceSub, Int.reduceMul, Int.reduceGT, Int.reduceGE, decS, Int.reduceNe, Int.reduceEq]
              refine acK_of (FCall.of (lent := false) (c10) (.refl rfl) rfl (by simp)) ?_
              simp -implicitDefEqProofs (maxSteps := 500000) (disch := first | decide | omega) only [↓preS, ↓reduceIte, allS, Nat.reduceBEq, Nat.reduceAdd, Nat.reduceEqDiff, reduceIte, Int.reduceToNat, Int.reduceLE, Int.reduceLT, Nat.reduceLeDiff, Nat.reduceMul, Nat.reducePow, Nat.reduceLT, Int.reduceBEq, Int.reduceBNe, Int.reduceAdd, Int.reduceSub, Int.reduceMul, Int.reduceGT, Int.reduceGE, decS, Int.reduceNe, Int.reduceEq, appS, appD, List.append_nil]
              refine acK_of (FCall.of (lent := false) (c11) (.refl rfl) rfl (by simp)) ?_
              simp -implicitDefEqProofs (maxSteps := 500000) (disch := first | decide | omega) only [↓preS, ↓reduceIte, allS, Nat.reduceBEq, Nat.reduceAdd, Nat.reduceEqDiff, reduceIte, Int.reduceToNat, Int.reduceLE, Int.reduceLT, Nat.reduceLeDiff, Nat.reduceMul, Nat.reducePow, Nat.reduceLT, Int.reduceBEq, Int.reduceBNe, Int.reduceAdd, Int.reduceSub, Int.reduceMul, Int.reduceGT, Int.reduceGE, decS, Int.reduceNe, Int.reduceEq]
              refine acK_of (FCall.of (lent := false) (c12) (.refl rfl) rfl (by simp)) ?_
              simp -implicitDefEqProofs (maxSteps := 500000) (disch := first | decide | omega) only [↓preS, ↓reduceIte, allS, Nat.reduceBEq, Nat.reduceAdd, Nat.reduceEqDiff, reduceIte, Int.reduceToNat, Int.reduceLE, Int.reduceLT, Nat.reduceLeDiff, Nat.reduceMul, Nat.reducePow, Nat.reduceLT, Int.reduceBEq, Int.reduceBNe, Int.reduceAdd, Int.reduceSub, Int.reduceMul, Int.reduceGT, Int.reduceGE, decS, Int.reduceNe, Int.reduceEq, hco2]
              refine ⟨(i + 1, offL L w, low), ?_, ⟨by simp only; omega, by simp only; omega, hn⟩, by simp only; omega⟩
              simp only
              (refine Sub.ofL [some 0] rfl (by simp) (by decide) (by simp [partL, AO.ro, AV.ro, AV.roL, names, AO.empty, SB, U8, SI, I64, STR] <;> (try and_intros) <;> rfl) (by simp [AO.bo, AV.bo, AV.boL, names] <;> (try and_intros) <;> rfl) ?_ <;> (try simp only [List.map_cons, List.map_nil, regsL, AV.ro, AV.roL, AV.bo, AV.boL, names, get_here, get_there, Nat.reduceBEq, List.getD_cons_zero, List.getD_cons_succ, List.getD_nil, and_true, true_and, Nat.reduceLT, List.length_cons, List.length_nil, Nat.reduceAdd, decide_true, Option.isSome_some, Bool.true_or, Bool.and_self, Option.isSome_none, Bool.false_or, beq_self_eq_true, wk0_self, wk0_nils]) <;> (try and_intros) <;> (first | done | rfl | exact .inl rfl | exact .inr ⟨rfl, _, _, rfl⟩ | (simp; done) | (simp; omega) | (refine .inl ?_; simp; done) | (refine .inl ?_; simp; omega)))
      · have hgo2 : ¬ (i < es.length) ∨ (i < es.length ∧ ¬ (i < 10)) ∨ (i < es.length ∧ i < 10 ∧ ¬ (0 < k)) := by omega
        have rest := many_rest L low p hm16 hlow
        unfold stC at rest ⊢
        rcases hgo2 with h | ⟨h, h'⟩ | ⟨h, h', h''⟩
        · simp -implicitDefEqProofs (maxSteps := 500000) (disch := first | decide | omega) only [↓preS, ↓reduceIte, allS, Nat.reduceBEq, Nat.reduceAdd, Nat.reduceEqDiff, reduceIte, Int.reduceToNat, Int.reduceLE, Int.reduceLT, Nat.reduceLeDiff, Nat.reduceMul, Nat.reducePow, Nat.reduceLT, Int.reduceBEq, Int.reduceBNe, Int.reduceAdd, Int.reduceSub, Int.reduceMul, Int.reduceGT, Int.reduceGE, decS, Int.reduceNe, Int.reduceEq]
          exact rest
        · simp -implicitDefEqProofs (maxSteps := 500000) (disch := first | decide | omega) only [↓preS, ↓reduceIte, allS, Nat.reduceBEq, Nat.reduceAdd, Nat.reduceEqDiff, reduceIte, Int.reduceToNat, Int.reduceLE, Int.reduceLT, Nat.reduceLeDiff, Nat.reduceMul, Nat.reducePow, Nat.reduceLT, Int.reduceBEq, Int.reduceBNe, Int.reduceAdd, Int.reduceSub, Int.reduceMul, Int.reduceGT, Int.reduceGE, decS, Int.reduceNe, Int.reduceEq]
          exact rest
        · simp -implicitDefEqProofs (maxSteps := 500000) (disch := first | decide | omega) only [↓preS, ↓reduceIte, allS, Nat.reduceBEq, Nat.reduceAdd, Nat.reduceEqDiff, reduceIte, Int.reduceToNat, Int.reduceLE, Int.reduceLT, Nat.reduceLeDiff, Nat.reduceMul, Nat.reducePow, Nat.reduceLT, Int.reduceBEq, Int.reduceBNe, Int.reduceAdd, Int.reduceSub, Int.reduceMul, Int.reduceGT, Int.reduceGE, decS, Int.reduceNe, Int.reduceEq]
          exact rest
end Go.Proofs.Ytceifhcjbmodaaa
