/- What functions of the program compute. No condition. -/
import Derived.Test.YtcplpegahpmnjaaDoorU23
set_option linter.unusedSimpArgs false
set_option linter.unusedVariables false
namespace Go.Proofs.YtcplpegahpmnjaaDoor
open Go Go.Ab
set_option maxRecDepth 20000 in
set_option maxHeartbeats 16000000 in
theorem iloop1 (ns : List Int) (hns : ns.length < 2 ^ 62) (labs pl : List (List UInt8)) (hpl : pl.length ≤ 7) (nl r : Nat) (hlab : labs.length = nl) (hnl : nl ≤ 2) (ps : Nat → List UInt8) (hps : ∀ q, (ps q).length ≤ 2 ^ 40) (us : Nat → Int) (cs : Nat → List Cap) (hcs : ∀ q, q < 1 → (cs q).length = nl) (Q : AE → St → Prop)
    (hQ : ∀ cs' : Nat → List Cap, (∀ q, q < 1 → (cs' q).length = nl) → Il ps 1 (fun i => kidsX (pl.getD i default) [⟨ps 0, .any, us 0⟩]) nl cs pl.length cs' → Q (.exit 4) ⟨[(1, .sl false 1 (ns.map I64)), (4, .ref 0 0 0), (6, .ref 1 0 0), (7, .sl false 1 (pl.map AV.str)), (11, .int .i64 (pl.length : Int)), (89, .bool false)], [.box [.nils, .nils], .box [.sl false 1 (labs.map AV.str), .own 2 3 0 1], .box ([.str (ps 0), .own 3 2 0 nl, .int .i64 (us 0)] ++ List.replicate r AV.any), .arr 2 ((cs' 0).map CAP)]⟩) (s0 : St) (hs0 : Sub 0 (keepK (some [1, 4, 6, 7, 11]) s0) ⟨[(1, .sl false 1 (ns.map I64)), (4, .ref 0 0 0), (6, .ref 1 0 0), (7, .sl false 1 (pl.map AV.str)), (11, .int .i64 (((0 : Nat) : Int) : Int))], [.box [.nils, .nils], .box [.sl false 1 (labs.map AV.str), .own 2 3 0 1], .box ([.str (ps 0), .own 3 2 0 nl, .int .i64 (us 0)] ++ List.replicate r AV.any), .arr 2 ((cs 0).map CAP)]⟩) :
    aw Tryd.prog (.loop 0 (some [1, 4, 6, 7, 11]) cc10l3) Q s0 := by
  refine aw_loopS (σ := Nat × (Nat → List Cap)) (fun q => ⟨[(1, .sl false 1 (ns.map I64)), (4, .ref 0 0 0), (6, .ref 1 0 0), (7, .sl false 1 (pl.map AV.str)), (11, .int .i64 (q.1 : Int))], [.box [.nils, .nils], .box [.sl false 1 (labs.map AV.str), .own 2 3 0 1], .box ([.str (ps 0), .own 3 2 0 nl, .int .i64 (us 0)] ++ List.replicate r AV.any), .arr 2 ((q.2 0).map CAP)]⟩) (fun q => q.1 ≤ pl.length ∧ (∀ w, w < 1 → (q.2 w).length = nl) ∧ Il ps 1 (fun i => kidsX (pl.getD i default) [⟨ps 0, .any, us 0⟩]) nl cs q.1 q.2) (fun q => pl.length - q.1) (0, cs) hs0 ⟨by simp, hcs, .zero⟩ ?_
  rintro ⟨i, cz⟩ ⟨hi, hcs, hil0⟩
  simp only at hi hcs hil0 ⊢
  unfold cc10l3
  by_cases hil : i < pl.length
  · have hg : pl.getD i default = pl[i] := by simp [hil]
    have hv : Vw true [.box [.nils, .nils], .box [.sl false 1 (labs.map AV.str), .own 2 3 0 1], .box ([.str (ps 0), .own 3 2 0 nl, .int .i64 (us 0)] ++ List.replicate r AV.any), .arr 2 ((cz 0).map CAP)] (.own 2 3 0 1) (.sl true 3 (([⟨ps 0, .any, us 0⟩] : List PX).map ROW)) := by
      refine Vw.boxA (cs := [.str (ps 0), .own 3 2 0 nl, .int .i64 (us 0)] ++ List.replicate r AV.any) rfl (fun a ha => ?_) rfl fun k y hk => ?_
      · obtain ⟨x, hx, rfl⟩ := List.mem_map.1 ha
        simp only [List.mem_cons, List.not_mem_nil, or_false] at hx
        rcases hx with rfl <;> rfl
      · have hf : flat (([⟨ps 0, .any, us 0⟩] : List PX).map ROW) = [.str (ps 0), .any, .int .i64 (us 0)] := rfl
        rw [hf] at hk
        match k, hk with
    | 0, hk => simp at hk; subst hk; exact ⟨_, rfl, .inl ⟨rfl, rfl⟩⟩
    | 1, hk => simp at hk; subst hk; exact ⟨_, rfl, .inr rfl⟩
    | 2, hk => simp at hk; subst hk; exact ⟨_, rfl, .inl ⟨rfl, rfl⟩⟩
    | q + 3, hk => simp at hk
    have ck := xkids_ok false true labs [⟨ps 0, .any, us 0⟩] pl[i] (by simp) (fun q hq => by
      simp only [List.mem_cons, List.not_mem_nil, or_false] at hq
      rcases hq with rfl <;> exact hps _)
    have hkl : (kidsX pl[i] [⟨ps 0, .any, us 0⟩]).length ≤ 7 := by
      unfold kidsX
      rw [List.length_map]
      exact Nat.le_trans (List.length_filter_le _ _) (by simp)
    obtain ⟨ks, hks⟩ : ∃ ks, kidsX pl[i] [⟨ps 0, .any, us 0⟩] = ks := ⟨_, rfl⟩
    rw [hks] at ck hkl
    simp only [List.cons_append, List.nil_append] at hv
    simp -implicitDefEqProofs (maxSteps := 500000) (disch := first | decide | omega) only [↓preS, allS, decS, simprocAttr, hg]
    refine ⟨by omega, by omega, ?_⟩
    refine acK_of (FCall.of (lent := true) ck (.cons (Vw.agg2 (Vw.refl rfl) hv rfl rfl) (.cons (Vw.refl rfl) .nil)) rfl (fun _ => rfl)) ?_
    simp -implicitDefEqProofs (maxSteps := 500000) (disch := first | decide | omega) only [↓preS, allS, decS, simprocAttr]
    unfold cc10L2
    simp -implicitDefEqProofs (maxSteps := 500000) (disch := first | decide | omega) only [↓preS, allS, decS, simprocAttr]
    refine kloop1 ns hns labs pl ks hkl nl r i (by omega) hlab hnl ps us cz hcs _ (fun cs' hcs' hkk => ?_) _ (.inl rfl)
    simp -implicitDefEqProofs (maxSteps := 500000) (disch := first | decide | omega) only [↓preS, allS, decS, simprocAttr]
    exact ⟨(i + 1, cs'), .inl rfl, ⟨by simp only; omega, hcs', .step hil0 (by rw [hg, hks]; exact hkk)⟩, by simp only; omega⟩
  · have hk2 : (i : Int) = (pl.length : Int) := by omega
    simp -implicitDefEqProofs (maxSteps := 500000) (disch := first | decide | omega) only [↓preS, allS, decS, simprocAttr]
    rw [hk2]
    have hk3 : i = pl.length := by omega
    rw [hk3] at hil0
    exact hQ cz hcs hil0
set_option maxRecDepth 20000 in
set_option maxHeartbeats 16000000 in
theorem iloop2 (ns : List Int) (hns : ns.length < 2 ^ 62) (labs pl : List (List UInt8)) (hpl : pl.length ≤ 7) (nl r : Nat) (hlab : labs.length = nl) (hnl : nl ≤ 2) (ps : Nat → List UInt8) (hps : ∀ q, (ps q).length ≤ 2 ^ 40) (us : Nat → Int) (cs : Nat → List Cap) (hcs : ∀ q, q < 2 → (cs q).length = nl) (Q : AE → St → Prop)
    (hQ : ∀ cs' : Nat → List Cap, (∀ q, q < 2 → (cs' q).length = nl) → Il ps 2 (fun i => kidsX (pl.getD i default) [⟨ps 0, .any, us 0⟩, ⟨ps 1, .any, us 1⟩]) nl cs pl.length cs' → Q (.exit 4) ⟨[(1, .sl false 1 (ns.map I64)), (4, .ref 0 0 0), (6, .ref 1 0 0), (7, .sl false 1 (pl.map AV.str)), (11, .int .i64 (pl.length : Int)), (89, .bool false)], [.box [.nils, .nils], .box [.sl false 1 (labs.map AV.str), .own 2 3 0 2], .box ([.str (ps 0), .own 3 2 0 nl, .int .i64 (us 0), .str (ps 1), .own 4 2 0 nl, .int .i64 (us 1)] ++ List.replicate r AV.any), .arr 2 ((cs' 0).map CAP), .arr 2 ((cs' 1).map CAP)]⟩) (s0 : St) (hs0 : Sub 0 (keepK (some [1, 4, 6, 7, 11]) s0) ⟨[(1, .sl false 1 (ns.map I64)), (4, .ref 0 0 0), (6, .ref 1 0 0), (7, .sl false 1 (pl.map AV.str)), (11, .int .i64 (((0 : Nat) : Int) : Int))], [.box [.nils, .nils], .box [.sl false 1 (labs.map AV.str), .own 2 3 0 2], .box ([.str (ps 0), .own 3 2 0 nl, .int .i64 (us 0), .str (ps 1), .own 4 2 0 nl, .int .i64 (us 1)] ++ List.replicate r AV.any), .arr 2 ((cs 0).map CAP), .arr 2 ((cs 1).map CAP)]⟩) :
    aw Tryd.prog (.loop 0 (some [1, 4, 6, 7, 11]) cc10l3) Q s0 := by
  refine aw_loopS (σ := Nat × (Nat → List Cap)) (fun q => ⟨[(1, .sl false 1 (ns.map I64)), (4, .ref 0 0 0), (6, .ref 1 0 0), (7, .sl false 1 (pl.map AV.str)), (11, .int .i64 (q.1 : Int))], [.box [.nils, .nils], .box [.sl false 1 (labs.map AV.str), .own 2 3 0 2], .box ([.str (ps 0), .own 3 2 0 nl, .int .i64 (us 0), .str (ps 1), .own 4 2 0 nl, .int .i64 (us 1)] ++ List.replicate r AV.any), .arr 2 ((q.2 0).map CAP), .arr 2 ((q.2 1).map CAP)]⟩) (fun q => q.1 ≤ pl.length ∧ (∀ w, w < 2 → (q.2 w).length = nl) ∧ Il ps 2 (fun i => kidsX (pl.getD i default) [⟨ps 0, .any, us 0⟩, ⟨ps 1, .any, us 1⟩]) nl cs q.1 q.2) (fun q => pl.length - q.1) (0, cs) hs0 ⟨by simp, hcs, .zero⟩ ?_
  rintro ⟨i, cz⟩ ⟨hi, hcs, hil0⟩
  simp only at hi hcs hil0 ⊢
  unfold cc10l3
  by_cases hil : i < pl.length
  · have hg : pl.getD i default = pl[i] := by simp [hil]
    have hv : Vw true [.box [.nils, .nils], .box [.sl false 1 (labs.map AV.str), .own 2 3 0 2], .box ([.str (ps 0), .own 3 2 0 nl, .int .i64 (us 0), .str (ps 1), .own 4 2 0 nl, .int .i64 (us 1)] ++ List.replicate r AV.any), .arr 2 ((cz 0).map CAP), .arr 2 ((cz 1).map CAP)] (.own 2 3 0 2) (.sl true 3 (([⟨ps 0, .any, us 0⟩, ⟨ps 1, .any, us 1⟩] : List PX).map ROW)) := by
      refine Vw.boxA (cs := [.str (ps 0), .own 3 2 0 nl, .int .i64 (us 0), .str (ps 1), .own 4 2 0 nl, .int .i64 (us 1)] ++ List.replicate r AV.any) rfl (fun a ha => ?_) rfl fun k y hk => ?_
      · obtain ⟨x, hx, rfl⟩ := List.mem_map.1 ha
        simp only [List.mem_cons, List.not_mem_nil, or_false] at hx
        rcases hx with rfl | rfl <;> rfl
      · have hf : flat (([⟨ps 0, .any, us 0⟩, ⟨ps 1, .any, us 1⟩] : List PX).map ROW) = [.str (ps 0), .any, .int .i64 (us 0), .str (ps 1), .any, .int .i64 (us 1)] := rfl
        rw [hf] at hk
        match k, hk with
    | 0, hk => simp at hk; subst hk; exact ⟨_, rfl, .inl ⟨rfl, rfl⟩⟩
    | 1, hk => simp at hk; subst hk; exact ⟨_, rfl, .inr rfl⟩
    | 2, hk => simp at hk; subst hk; exact ⟨_, rfl, .inl ⟨rfl, rfl⟩⟩
    | 3, hk => simp at hk; subst hk; exact ⟨_, rfl, .inl ⟨rfl, rfl⟩⟩
    | 4, hk => simp at hk; subst hk; exact ⟨_, rfl, .inr rfl⟩
    | 5, hk => simp at hk; subst hk; exact ⟨_, rfl, .inl ⟨rfl, rfl⟩⟩
    | q + 6, hk => simp at hk
    have ck := xkids_ok false true labs [⟨ps 0, .any, us 0⟩, ⟨ps 1, .any, us 1⟩] pl[i] (by simp) (fun q hq => by
      simp only [List.mem_cons, List.not_mem_nil, or_false] at hq
      rcases hq with rfl | rfl <;> exact hps _)
    have hkl : (kidsX pl[i] [⟨ps 0, .any, us 0⟩, ⟨ps 1, .any, us 1⟩]).length ≤ 7 := by
      unfold kidsX
      rw [List.length_map]
      exact Nat.le_trans (List.length_filter_le _ _) (by simp)
    obtain ⟨ks, hks⟩ : ∃ ks, kidsX pl[i] [⟨ps 0, .any, us 0⟩, ⟨ps 1, .any, us 1⟩] = ks := ⟨_, rfl⟩
    rw [hks] at ck hkl
    simp only [List.cons_append, List.nil_append] at hv
    simp -implicitDefEqProofs (maxSteps := 500000) (disch := first | decide | omega) only [↓preS, allS, decS, simprocAttr, hg]
    refine ⟨by omega, by omega, ?_⟩
    refine acK_of (FCall.of (lent := true) ck (.cons (Vw.agg2 (Vw.refl rfl) hv rfl rfl) (.cons (Vw.refl rfl) .nil)) rfl (fun _ => rfl)) ?_
    simp -implicitDefEqProofs (maxSteps := 500000) (disch := first | decide | omega) only [↓preS, allS, decS, simprocAttr]
    unfold cc10L2
    simp -implicitDefEqProofs (maxSteps := 500000) (disch := first | decide | omega) only [↓preS, allS, decS, simprocAttr]
    refine kloop2 ns hns labs pl ks hkl nl r i (by omega) hlab hnl ps us cz hcs _ (fun cs' hcs' hkk => ?_) _ (.inl rfl)
    simp -implicitDefEqProofs (maxSteps := 500000) (disch := first | decide | omega) only [↓preS, allS, decS, simprocAttr]
    exact ⟨(i + 1, cs'), .inl rfl, ⟨by simp only; omega, hcs', .step hil0 (by rw [hg, hks]; exact hkk)⟩, by simp only; omega⟩
  · have hk2 : (i : Int) = (pl.length : Int) := by omega
    simp -implicitDefEqProofs (maxSteps := 500000) (disch := first | decide | omega) only [↓preS, allS, decS, simprocAttr]
    rw [hk2]
    have hk3 : i = pl.length := by omega
    rw [hk3] at hil0
    exact hQ cz hcs hil0
set_option maxRecDepth 20000 in
set_option maxHeartbeats 16000000 in
theorem iloop3 (ns : List Int) (hns : ns.length < 2 ^ 62) (labs pl : List (List UInt8)) (hpl : pl.length ≤ 7) (nl r : Nat) (hlab : labs.length = nl) (hnl : nl ≤ 2) (ps : Nat → List UInt8) (hps : ∀ q, (ps q).length ≤ 2 ^ 40) (us : Nat → Int) (cs : Nat → List Cap) (hcs : ∀ q, q < 3 → (cs q).length = nl) (Q : AE → St → Prop)
    (hQ : ∀ cs' : Nat → List Cap, (∀ q, q < 3 → (cs' q).length = nl) → Il ps 3 (fun i => kidsX (pl.getD i default) [⟨ps 0, .any, us 0⟩, ⟨ps 1, .any, us 1⟩, ⟨ps 2, .any, us 2⟩]) nl cs pl.length cs' → Q (.exit 4) ⟨[(1, .sl false 1 (ns.map I64)), (4, .ref 0 0 0), (6, .ref 1 0 0), (7, .sl false 1 (pl.map AV.str)), (11, .int .i64 (pl.length : Int)), (89, .bool false)], [.box [.nils, .nils], .box [.sl false 1 (labs.map AV.str), .own 2 3 0 3], .box ([.str (ps 0), .own 3 2 0 nl, .int .i64 (us 0), .str (ps 1), .own 4 2 0 nl, .int .i64 (us 1), .str (ps 2), .own 5 2 0 nl, .int .i64 (us 2)] ++ List.replicate r AV.any), .arr 2 ((cs' 0).map CAP), .arr 2 ((cs' 1).map CAP), .arr 2 ((cs' 2).map CAP)]⟩) (s0 : St) (hs0 : Sub 0 (keepK (some [1, 4, 6, 7, 11]) s0) ⟨[(1, .sl false 1 (ns.map I64)), (4, .ref 0 0 0), (6, .ref 1 0 0), (7, .sl false 1 (pl.map AV.str)), (11, .int .i64 (((0 : Nat) : Int) : Int))], [.box [.nils, .nils], .box [.sl false 1 (labs.map AV.str), .own 2 3 0 3], .box ([.str (ps 0), .own 3 2 0 nl, .int .i64 (us 0), .str (ps 1), .own 4 2 0 nl, .int .i64 (us 1), .str (ps 2), .own 5 2 0 nl, .int .i64 (us 2)] ++ List.replicate r AV.any), .arr 2 ((cs 0).map CAP), .arr 2 ((cs 1).map CAP), .arr 2 ((cs 2).map CAP)]⟩) :
    aw Tryd.prog (.loop 0 (some [1, 4, 6, 7, 11]) cc10l3) Q s0 := by
  refine aw_loopS (σ := Nat × (Nat → List Cap)) (fun q => ⟨[(1, .sl false 1 (ns.map I64)), (4, .ref 0 0 0), (6, .ref 1 0 0), (7, .sl false 1 (pl.map AV.str)), (11, .int .i64 (q.1 : Int))], [.box [.nils, .nils], .box [.sl false 1 (labs.map AV.str), .own 2 3 0 3], .box ([.str (ps 0), .own 3 2 0 nl, .int .i64 (us 0), .str (ps 1), .own 4 2 0 nl, .int .i64 (us 1), .str (ps 2), .own 5 2 0 nl, .int .i64 (us 2)] ++ List.replicate r AV.any), .arr 2 ((q.2 0).map CAP), .arr 2 ((q.2 1).map CAP), .arr 2 ((q.2 2).map CAP)]⟩) (fun q => q.1 ≤ pl.length ∧ (∀ w, w < 3 → (q.2 w).length = nl) ∧ Il ps 3 (fun i => kidsX (pl.getD i default) [⟨ps 0, .any, us 0⟩, ⟨ps 1, .any, us 1⟩, ⟨ps 2, .any, us 2⟩]) nl cs q.1 q.2) (fun q => pl.length - q.1) (0, cs) hs0 ⟨by simp, hcs, .zero⟩ ?_
  rintro ⟨i, cz⟩ ⟨hi, hcs, hil0⟩
  simp only at hi hcs hil0 ⊢
  unfold cc10l3
  by_cases hil : i < pl.length
  · have hg : pl.getD i default = pl[i] := by simp [hil]
    have hv : Vw true [.box [.nils, .nils], .box [.sl false 1 (labs.map AV.str), .own 2 3 0 3], .box ([.str (ps 0), .own 3 2 0 nl, .int .i64 (us 0), .str (ps 1), .own 4 2 0 nl, .int .i64 (us 1), .str (ps 2), .own 5 2 0 nl, .int .i64 (us 2)] ++ List.replicate r AV.any), .arr 2 ((cz 0).map CAP), .arr 2 ((cz 1).map CAP), .arr 2 ((cz 2).map CAP)] (.own 2 3 0 3) (.sl true 3 (([⟨ps 0, .any, us 0⟩, ⟨ps 1, .any, us 1⟩, ⟨ps 2, .any, us 2⟩] : List PX).map ROW)) := by
      refine Vw.boxA (cs := [.str (ps 0), .own 3 2 0 nl, .int .i64 (us 0), .str (ps 1), .own 4 2 0 nl, .int .i64 (us 1), .str (ps 2), .own 5 2 0 nl, .int .i64 (us 2)] ++ List.replicate r AV.any) rfl (fun a ha => ?_) rfl fun k y hk => ?_
      · obtain ⟨x, hx, rfl⟩ := List.mem_map.1 ha
        simp only [List.mem_cons, List.not_mem_nil, or_false] at hx
        rcases hx with rfl | rfl | rfl <;> rfl
      · have hf : flat (([⟨ps 0, .any, us 0⟩, ⟨ps 1, .any, us 1⟩, ⟨ps 2, .any, us 2⟩] : List PX).map ROW) = [.str (ps 0), .any, .int .i64 (us 0), .str (ps 1), .any, .int .i64 (us 1), .str (ps 2), .any, .int .i64 (us 2)] := rfl
        rw [hf] at hk
        match k, hk with
    | 0, hk => simp at hk; subst hk; exact ⟨_, rfl, .inl ⟨rfl, rfl⟩⟩
    | 1, hk => simp at hk; subst hk; exact ⟨_, rfl, .inr rfl⟩
    | 2, hk => simp at hk; subst hk; exact ⟨_, rfl, .inl ⟨rfl, rfl⟩⟩
    | 3, hk => simp at hk; subst hk; exact ⟨_, rfl, .inl ⟨rfl, rfl⟩⟩
    | 4, hk => simp at hk; subst hk; exact ⟨_, rfl, .inr rfl⟩
    | 5, hk => simp at hk; subst hk; exact ⟨_, rfl, .inl ⟨rfl, rfl⟩⟩
    | 6, hk => simp at hk; subst hk; exact ⟨_, rfl, .inl ⟨rfl, rfl⟩⟩
    | 7, hk => simp at hk; subst hk; exact ⟨_, rfl, .inr rfl⟩
    | 8, hk => simp at hk; subst hk; exact ⟨_, rfl, .inl ⟨rfl, rfl⟩⟩
    | q + 9, hk => simp at hk
    have ck := xkids_ok false true labs [⟨ps 0, .any, us 0⟩, ⟨ps 1, .any, us 1⟩, ⟨ps 2, .any, us 2⟩] pl[i] (by simp) (fun q hq => by
      simp only [List.mem_cons, List.not_mem_nil, or_false] at hq
      rcases hq with rfl | rfl | rfl <;> exact hps _)
    have hkl : (kidsX pl[i] [⟨ps 0, .any, us 0⟩, ⟨ps 1, .any, us 1⟩, ⟨ps 2, .any, us 2⟩]).length ≤ 7 := by
      unfold kidsX
      rw [List.length_map]
      exact Nat.le_trans (List.length_filter_le _ _) (by simp)
    obtain ⟨ks, hks⟩ : ∃ ks, kidsX pl[i] [⟨ps 0, .any, us 0⟩, ⟨ps 1, .any, us 1⟩, ⟨ps 2, .any, us 2⟩] = ks := ⟨_, rfl⟩
    rw [hks] at ck hkl
    simp only [List.cons_append, List.nil_append] at hv
    simp -implicitDefEqProofs (maxSteps := 500000) (disch := first | decide | omega) only [↓preS, allS, decS, simprocAttr, hg]
    refine ⟨by omega, by omega, ?_⟩
    refine acK_of (FCall.of (lent := true) ck (.cons (Vw.agg2 (Vw.refl rfl) hv rfl rfl) (.cons (Vw.refl rfl) .nil)) rfl (fun _ => rfl)) ?_
    simp -implicitDefEqProofs (maxSteps := 500000) (disch := first | decide | omega) only [↓preS, allS, decS, simprocAttr]
    unfold cc10L2
    simp -implicitDefEqProofs (maxSteps := 500000) (disch := first | decide | omega) only [↓preS, allS, decS, simprocAttr]
    refine kloop3 ns hns labs pl ks hkl nl r i (by omega) hlab hnl ps us cz hcs _ (fun cs' hcs' hkk => ?_) _ (.inl rfl)
    simp -implicitDefEqProofs (maxSteps := 500000) (disch := first | decide | omega) only [↓preS, allS, decS, simprocAttr]
    exact ⟨(i + 1, cs'), .inl rfl, ⟨by simp only; omega, hcs', .step hil0 (by rw [hg, hks]; exact hkk)⟩, by simp only; omega⟩
  · have hk2 : (i : Int) = (pl.length : Int) := by omega
    simp -implicitDefEqProofs (maxSteps := 500000) (disch := first | decide | omega) only [↓preS, allS, decS, simprocAttr]
    rw [hk2]
    have hk3 : i = pl.length := by omega
    rw [hk3] at hil0
    exact hQ cz hcs hil0
set_option maxRecDepth 20000 in
set_option maxHeartbeats 16000000 in
theorem iloop5 (ns : List Int) (hns : ns.length < 2 ^ 62) (labs pl : List (List UInt8)) (hpl : pl.length ≤ 7) (nl r : Nat) (hlab : labs.length = nl) (hnl : nl ≤ 2) (ps : Nat → List UInt8) (hps : ∀ q, (ps q).length ≤ 2 ^ 40) (us : Nat → Int) (cs : Nat → List Cap) (hcs : ∀ q, q < 5 → (cs q).length = nl) (Q : AE → St → Prop)
    (hQ : ∀ cs' : Nat → List Cap, (∀ q, q < 5 → (cs' q).length = nl) → Il ps 5 (fun i => kidsX (pl.getD i default) [⟨ps 0, .any, us 0⟩, ⟨ps 1, .any, us 1⟩, ⟨ps 2, .any, us 2⟩, ⟨ps 3, .any, us 3⟩, ⟨ps 4, .any, us 4⟩]) nl cs pl.length cs' → Q (.exit 4) ⟨[(1, .sl false 1 (ns.map I64)), (4, .ref 0 0 0), (6, .ref 1 0 0), (7, .sl false 1 (pl.map AV.str)), (11, .int .i64 (pl.length : Int)), (89, .bool false)], [.box [.nils, .nils], .box [.sl false 1 (labs.map AV.str), .own 2 3 0 5], .box ([.str (ps 0), .own 3 2 0 nl, .int .i64 (us 0), .str (ps 1), .own 4 2 0 nl, .int .i64 (us 1), .str (ps 2), .own 5 2 0 nl, .int .i64 (us 2), .str (ps 3), .own 6 2 0 nl, .int .i64 (us 3), .str (ps 4), .own 7 2 0 nl, .int .i64 (us 4)] ++ List.replicate r AV.any), .arr 2 ((cs' 0).map CAP), .arr 2 ((cs' 1).map CAP), .arr 2 ((cs' 2).map CAP), .arr 2 ((cs' 3).map CAP), .arr 2 ((cs' 4).map CAP)]⟩) (s0 : St) (hs0 : Sub 0 (keepK (some [1, 4, 6, 7, 11]) s0) ⟨[(1, .sl false 1 (ns.map I64)), (4, .ref 0 0 0), (6, .ref 1 0 0), (7, .sl false 1 (pl.map AV.str)), (11, .int .i64 (((0 : Nat) : Int) : Int))], [.box [.nils, .nils], .box [.sl false 1 (labs.map AV.str), .own 2 3 0 5], .box ([.str (ps 0), .own 3 2 0 nl, .int .i64 (us 0), .str (ps 1), .own 4 2 0 nl, .int .i64 (us 1), .str (ps 2), .own 5 2 0 nl, .int .i64 (us 2), .str (ps 3), .own 6 2 0 nl, .int .i64 (us 3), .str (ps 4), .own 7 2 0 nl, .int .i64 (us 4)] ++ List.replicate r AV.any), .arr 2 ((cs 0).map CAP), .arr 2 ((cs 1).map CAP), .arr 2 ((cs 2).map CAP), .arr 2 ((cs 3).map CAP), .arr 2 ((cs 4).map CAP)]⟩) :
    aw Tryd.prog (.loop 0 (some [1, 4, 6, 7, 11]) cc10l3) Q s0 := by
  refine aw_loopS (σ := Nat × (Nat → List Cap)) (fun q => ⟨[(1, .sl false 1 (ns.map I64)), (4, .ref 0 0 0), (6, .ref 1 0 0), (7, .sl false 1 (pl.map AV.str)), (11, .int .i64 (q.1 : Int))], [.box [.nils, .nils], .box [.sl false 1 (labs.map AV.str), .own 2 3 0 5], .box ([.str (ps 0), .own 3 2 0 nl, .int .i64 (us 0), .str (ps 1), .own 4 2 0 nl, .int .i64 (us 1), .str (ps 2), .own 5 2 0 nl, .int .i64 (us 2), .str (ps 3), .own 6 2 0 nl, .int .i64 (us 3), .str (ps 4), .own 7 2 0 nl, .int .i64 (us 4)] ++ List.replicate r AV.any), .arr 2 ((q.2 0).map CAP), .arr 2 ((q.2 1).map CAP), .arr 2 ((q.2 2).map CAP), .arr 2 ((q.2 3).map CAP), .arr 2 ((q.2 4).map CAP)]⟩) (fun q => q.1 ≤ pl.length ∧ (∀ w, w < 5 → (q.2 w).length = nl) ∧ Il ps 5 (fun i => kidsX (pl.getD i default) [⟨ps 0, .any, us 0⟩, ⟨ps 1, .any, us 1⟩, ⟨ps 2, .any, us 2⟩, ⟨ps 3, .any, us 3⟩, ⟨ps 4, .any, us 4⟩]) nl cs q.1 q.2) (fun q => pl.length - q.1) (0, cs) hs0 ⟨by simp, hcs, .zero⟩ ?_
  rintro ⟨i, cz⟩ ⟨hi, hcs, hil0⟩
  simp only at hi hcs hil0 ⊢
  unfold cc10l3
  by_cases hil : i < pl.length
  · have hg : pl.getD i default = pl[i] := by simp [hil]
    have hv : Vw true [.box [.nils, .nils], .box [.sl false 1 (labs.map AV.str), .own 2 3 0 5], .box ([.str (ps 0), .own 3 2 0 nl, .int .i64 (us 0), .str (ps 1), .own 4 2 0 nl, .int .i64 (us 1), .str (ps 2), .own 5 2 0 nl, .int .i64 (us 2), .str (ps 3), .own 6 2 0 nl, .int .i64 (us 3), .str (ps 4), .own 7 2 0 nl, .int .i64 (us 4)] ++ List.replicate r AV.any), .arr 2 ((cz 0).map CAP), .arr 2 ((cz 1).map CAP), .arr 2 ((cz 2).map CAP), .arr 2 ((cz 3).map CAP), .arr 2 ((cz 4).map CAP)] (.own 2 3 0 5) (.sl true 3 (([⟨ps 0, .any, us 0⟩, ⟨ps 1, .any, us 1⟩, ⟨ps 2, .any, us 2⟩, ⟨ps 3, .any, us 3⟩, ⟨ps 4, .any, us 4⟩] : List PX).map ROW)) := by
      refine Vw.boxA (cs := [.str (ps 0), .own 3 2 0 nl, .int .i64 (us 0), .str (ps 1), .own 4 2 0 nl, .int .i64 (us 1), .str (ps 2), .own 5 2 0 nl, .int .i64 (us 2), .str (ps 3), .own 6 2 0 nl, .int .i64 (us 3), .str (ps 4), .own 7 2 0 nl, .int .i64 (us 4)] ++ List.replicate r AV.any) rfl (fun a ha => ?_) rfl fun k y hk => ?_
      · obtain ⟨x, hx, rfl⟩ := List.mem_map.1 ha
        simp only [List.mem_cons, List.not_mem_nil, or_false] at hx
        rcases hx with rfl | rfl | rfl | rfl | rfl <;> rfl
      · have hf : flat (([⟨ps 0, .any, us 0⟩, ⟨ps 1, .any, us 1⟩, ⟨ps 2, .any, us 2⟩, ⟨ps 3, .any, us 3⟩, ⟨ps 4, .any, us 4⟩] : List PX).map ROW) = [.str (ps 0), .any, .int .i64 (us 0), .str (ps 1), .any, .int .i64 (us 1), .str (ps 2), .any, .int .i64 (us 2), .str (ps 3), .any, .int .i64 (us 3), .str (ps 4), .any, .int .i64 (us 4)] := rfl
        rw [hf] at hk
        match k, hk with
    | 0, hk => simp at hk; subst hk; exact ⟨_, rfl, .inl ⟨rfl, rfl⟩⟩
    | 1, hk => simp at hk; subst hk; exact ⟨_, rfl, .inr rfl⟩
    | 2, hk => simp at hk; subst hk; exact ⟨_, rfl, .inl ⟨rfl, rfl⟩⟩
    | 3, hk => simp at hk; subst hk; exact ⟨_, rfl, .inl ⟨rfl, rfl⟩⟩
    | 4, hk => simp at hk; subst hk; exact ⟨_, rfl, .inr rfl⟩
    | 5, hk => simp at hk; subst hk; exact ⟨_, rfl, .inl ⟨rfl, rfl⟩⟩
    | 6, hk => simp at hk; subst hk; exact ⟨_, rfl, .inl ⟨rfl, rfl⟩⟩
    | 7, hk => simp at hk; subst hk; exact ⟨_, rfl, .inr rfl⟩
    | 8, hk => simp at hk; subst hk; exact ⟨_, rfl, .inl ⟨rfl, rfl⟩⟩
    | 9, hk => simp at hk; subst hk; exact ⟨_, rfl, .inl ⟨rfl, rfl⟩⟩
    | 10, hk => simp at hk; subst hk; exact ⟨_, rfl, .inr rfl⟩
    | 11, hk => simp at hk; subst hk; exact ⟨_, rfl, .inl ⟨rfl, rfl⟩⟩
    | 12, hk => simp at hk; subst hk; exact ⟨_, rfl, .inl ⟨rfl, rfl⟩⟩
    | 13, hk => simp at hk; subst hk; exact ⟨_, rfl, .inr rfl⟩
    | 14, hk => simp at hk; subst hk; exact ⟨_, rfl, .inl ⟨rfl, rfl⟩⟩
    | q + 15, hk => simp at hk
    have ck := xkids_ok false true labs [⟨ps 0, .any, us 0⟩, ⟨ps 1, .any, us 1⟩, ⟨ps 2, .any, us 2⟩, ⟨ps 3, .any, us 3⟩, ⟨ps 4, .any, us 4⟩] pl[i] (by simp) (fun q hq => by
      simp only [List.mem_cons, List.not_mem_nil, or_false] at hq
      rcases hq with rfl | rfl | rfl | rfl | rfl <;> exact hps _)
    have hkl : (kidsX pl[i] [⟨ps 0, .any, us 0⟩, ⟨ps 1, .any, us 1⟩, ⟨ps 2, .any, us 2⟩, ⟨ps 3, .any, us 3⟩, ⟨ps 4, .any, us 4⟩]).length ≤ 7 := by
      unfold kidsX
      rw [List.length_map]
      exact Nat.le_trans (List.length_filter_le _ _) (by simp)
    obtain ⟨ks, hks⟩ : ∃ ks, kidsX pl[i] [⟨ps 0, .any, us 0⟩, ⟨ps 1, .any, us 1⟩, ⟨ps 2, .any, us 2⟩, ⟨ps 3, .any, us 3⟩, ⟨ps 4, .any, us 4⟩] = ks := ⟨_, rfl⟩
    rw [hks] at ck hkl
    simp only [List.cons_append, List.nil_append] at hv
    simp -implicitDefEqProofs (maxSteps := 500000) (disch := first | decide | omega) only [↓preS, allS, decS, simprocAttr, hg]
    refine ⟨by omega, by omega, ?_⟩
    refine acK_of (FCall.of (lent := true) ck (.cons (Vw.agg2 (Vw.refl rfl) hv rfl rfl) (.cons (Vw.refl rfl) .nil)) rfl (fun _ => rfl)) ?_
    simp -implicitDefEqProofs (maxSteps := 500000) (disch := first | decide | omega) only [↓preS, allS, decS, simprocAttr]
    unfold cc10L2
    simp -implicitDefEqProofs (maxSteps := 500000) (disch := first | decide | omega) only [↓preS, allS, decS, simprocAttr]
    refine kloop5 ns hns labs pl ks hkl nl r i (by omega) hlab hnl ps us cz hcs _ (fun cs' hcs' hkk => ?_) _ (.inl rfl)
    simp -implicitDefEqProofs (maxSteps := 500000) (disch := first | decide | omega) only [↓preS, allS, decS, simprocAttr]
    exact ⟨(i + 1, cs'), .inl rfl, ⟨by simp only; omega, hcs', .step hil0 (by rw [hg, hks]; exact hkk)⟩, by simp only; omega⟩
  · have hk2 : (i : Int) = (pl.length : Int) := by omega
    simp -implicitDefEqProofs (maxSteps := 500000) (disch := first | decide | omega) only [↓preS, allS, decS, simprocAttr]
    rw [hk2]
    have hk3 : i = pl.length := by omega
    rw [hk3] at hil0
    exact hQ cz hcs hil0
set_option maxRecDepth 20000 in
set_option maxHeartbeats 16000000 in
theorem iloop7 (ns : List Int) (hns : ns.length < 2 ^ 62) (labs pl : List (List UInt8)) (hpl : pl.length ≤ 7) (nl r : Nat) (hlab : labs.length = nl) (hnl : nl ≤ 2) (ps : Nat → List UInt8) (hps : ∀ q, (ps q).length ≤ 2 ^ 40) (us : Nat → Int) (cs : Nat → List Cap) (hcs : ∀ q, q < 7 → (cs q).length = nl) (Q : AE → St → Prop)
    (hQ : ∀ cs' : Nat → List Cap, (∀ q, q < 7 → (cs' q).length = nl) → Il ps 7 (fun i => kidsX (pl.getD i default) [⟨ps 0, .any, us 0⟩, ⟨ps 1, .any, us 1⟩, ⟨ps 2, .any, us 2⟩, ⟨ps 3, .any, us 3⟩, ⟨ps 4, .any, us 4⟩, ⟨ps 5, .any, us 5⟩, ⟨ps 6, .any, us 6⟩]) nl cs pl.length cs' → Q (.exit 4) ⟨[(1, .sl false 1 (ns.map I64)), (4, .ref 0 0 0), (6, .ref 1 0 0), (7, .sl false 1 (pl.map AV.str)), (11, .int .i64 (pl.length : Int)), (89, .bool false)], [.box [.nils, .nils], .box [.sl false 1 (labs.map AV.str), .own 2 3 0 7], .box ([.str (ps 0), .own 3 2 0 nl, .int .i64 (us 0), .str (ps 1), .own 4 2 0 nl, .int .i64 (us 1), .str (ps 2), .own 5 2 0 nl, .int .i64 (us 2), .str (ps 3), .own 6 2 0 nl, .int .i64 (us 3), .str (ps 4), .own 7 2 0 nl, .int .i64 (us 4), .str (ps 5), .own 8 2 0 nl, .int .i64 (us 5), .str (ps 6), .own 9 2 0 nl, .int .i64 (us 6)] ++ List.replicate r AV.any), .arr 2 ((cs' 0).map CAP), .arr 2 ((cs' 1).map CAP), .arr 2 ((cs' 2).map CAP), .arr 2 ((cs' 3).map CAP), .arr 2 ((cs' 4).map CAP), .arr 2 ((cs' 5).map CAP), .arr 2 ((cs' 6).map CAP)]⟩) (s0 : St) (hs0 : Sub 0 (keepK (some [1, 4, 6, 7, 11]) s0) ⟨[(1, .sl false 1 (ns.map I64)), (4, .ref 0 0 0), (6, .ref 1 0 0), (7, .sl false 1 (pl.map AV.str)), (11, .int .i64 (((0 : Nat) : Int) : Int))], [.box [.nils, .nils], .box [.sl false 1 (labs.map AV.str), .own 2 3 0 7], .box ([.str (ps 0), .own 3 2 0 nl, .int .i64 (us 0), .str (ps 1), .own 4 2 0 nl, .int .i64 (us 1), .str (ps 2), .own 5 2 0 nl, .int .i64 (us 2), .str (ps 3), .own 6 2 0 nl, .int .i64 (us 3), .str (ps 4), .own 7 2 0 nl, .int .i64 (us 4), .str (ps 5), .own 8 2 0 nl, .int .i64 (us 5), .str (ps 6), .own 9 2 0 nl, .int .i64 (us 6)] ++ List.replicate r AV.any), .arr 2 ((cs 0).map CAP), .arr 2 ((cs 1).map CAP), .arr 2 ((cs 2).map CAP), .arr 2 ((cs 3).map CAP), .arr 2 ((cs 4).map CAP), .arr 2 ((cs 5).map CAP), .arr 2 ((cs 6).map CAP)]⟩) :
    aw Tryd.prog (.loop 0 (some [1, 4, 6, 7, 11]) cc10l3) Q s0 := by
  refine aw_loopS (σ := Nat × (Nat → List Cap)) (fun q => ⟨[(1, .sl false 1 (ns.map I64)), (4, .ref 0 0 0), (6, .ref 1 0 0), (7, .sl false 1 (pl.map AV.str)), (11, .int .i64 (q.1 : Int))], [.box [.nils, .nils], .box [.sl false 1 (labs.map AV.str), .own 2 3 0 7], .box ([.str (ps 0), .own 3 2 0 nl, .int .i64 (us 0), .str (ps 1), .own 4 2 0 nl, .int .i64 (us 1), .str (ps 2), .own 5 2 0 nl, .int .i64 (us 2), .str (ps 3), .own 6 2 0 nl, .int .i64 (us 3), .str (ps 4), .own 7 2 0 nl, .int .i64 (us 4), .str (ps 5), .own 8 2 0 nl, .int .i64 (us 5), .str (ps 6), .own 9 2 0 nl, .int .i64 (us 6)] ++ List.replicate r AV.any), .arr 2 ((q.2 0).map CAP), .arr 2 ((q.2 1).map CAP), .arr 2 ((q.2 2).map CAP), .arr 2 ((q.2 3).map CAP), .arr 2 ((q.2 4).map CAP), .arr 2 ((q.2 5).map CAP), .arr 2 ((q.2 6).map CAP)]⟩) (fun q => q.1 ≤ pl.length ∧ (∀ w, w < 7 → (q.2 w).length = nl) ∧ Il ps 7 (fun i => kidsX (pl.getD i default) [⟨ps 0, .any, us 0⟩, ⟨ps 1, .any, us 1⟩, ⟨ps 2, .any, us 2⟩, ⟨ps 3, .any, us 3⟩, ⟨ps 4, .any, us 4⟩, ⟨ps 5, .any, us 5⟩, ⟨ps 6, .any, us 6⟩]) nl cs q.1 q.2) (fun q => pl.length - q.1) (0, cs) hs0 ⟨by simp, hcs, .zero⟩ ?_
  rintro ⟨i, cz⟩ ⟨hi, hcs, hil0⟩
  simp only at hi hcs hil0 ⊢
  unfold cc10l3
  by_cases hil : i < pl.length
  · have hg : pl.getD i default = pl[i] := by simp [hil]
    have hv : Vw true [.box [.nils, .nils], .box [.sl false 1 (labs.map AV.str), .own 2 3 0 7], .box ([.str (ps 0), .own 3 2 0 nl, .int .i64 (us 0), .str (ps 1), .own 4 2 0 nl, .int .i64 (us 1), .str (ps 2), .own 5 2 0 nl, .int .i64 (us 2), .str (ps 3), .own 6 2 0 nl, .int .i64 (us 3), .str (ps 4), .own 7 2 0 nl, .int .i64 (us 4), .str (ps 5), .own 8 2 0 nl, .int .i64 (us 5), .str (ps 6), .own 9 2 0 nl, .int .i64 (us 6)] ++ List.replicate r AV.any), .arr 2 ((cz 0).map CAP), .arr 2 ((cz 1).map CAP), .arr 2 ((cz 2).map CAP), .arr 2 ((cz 3).map CAP), .arr 2 ((cz 4).map CAP), .arr 2 ((cz 5).map CAP), .arr 2 ((cz 6).map CAP)] (.own 2 3 0 7) (.sl true 3 (([⟨ps 0, .any, us 0⟩, ⟨ps 1, .any, us 1⟩, ⟨ps 2, .any, us 2⟩, ⟨ps 3, .any, us 3⟩, ⟨ps 4, .any, us 4⟩, ⟨ps 5, .any, us 5⟩, ⟨ps 6, .any, us 6⟩] : List PX).map ROW)) := by
      refine Vw.boxA (cs := [.str (ps 0), .own 3 2 0 nl, .int .i64 (us 0), .str (ps 1), .own 4 2 0 nl, .int .i64 (us 1), .str (ps 2), .own 5 2 0 nl, .int .i64 (us 2), .str (ps 3), .own 6 2 0 nl, .int .i64 (us 3), .str (ps 4), .own 7 2 0 nl, .int .i64 (us 4), .str (ps 5), .own 8 2 0 nl, .int .i64 (us 5), .str (ps 6), .own 9 2 0 nl, .int .i64 (us 6)] ++ List.replicate r AV.any) rfl (fun a ha => ?_) rfl fun k y hk => ?_
      · obtain ⟨x, hx, rfl⟩ := List.mem_map.1 ha
        simp only [List.mem_cons, List.not_mem_nil, or_false] at hx
        rcases hx with rfl | rfl | rfl | rfl | rfl | rfl | rfl <;> rfl
      · have hf : flat (([⟨ps 0, .any, us 0⟩, ⟨ps 1, .any, us 1⟩, ⟨ps 2, .any, us 2⟩, ⟨ps 3, .any, us 3⟩, ⟨ps 4, .any, us 4⟩, ⟨ps 5, .any, us 5⟩, ⟨ps 6, .any, us 6⟩] : List PX).map ROW) = [.str (ps 0), .any, .int .i64 (us 0), .str (ps 1), .any, .int .i64 (us 1), .str (ps 2), .any, .int .i64 (us 2), .str (ps 3), .any, .int .i64 (us 3), .str (ps 4), .any, .int .i64 (us 4), .str (ps 5), .any, .int .i64 (us 5), .str (ps 6), .any, .int .i64 (us 6)] := rfl
        rw [hf] at hk
        match k, hk with
    | 0, hk => simp at hk; subst hk; exact ⟨_, rfl, .inl ⟨rfl, rfl⟩⟩
    | 1, hk => simp at hk; subst hk; exact ⟨_, rfl, .inr rfl⟩
    | 2, hk => simp at hk; subst hk; exact ⟨_, rfl, .inl ⟨rfl, rfl⟩⟩
    | 3, hk => simp at hk; subst hk; exact ⟨_, rfl, .inl ⟨rfl, rfl⟩⟩
    | 4, hk => simp at hk; subst hk; exact ⟨_, rfl, .inr rfl⟩
    | 5, hk => simp at hk; subst hk; exact ⟨_, rfl, .inl ⟨rfl, rfl⟩⟩
    | 6, hk => simp at hk; subst hk; exact ⟨_, rfl, .inl ⟨rfl, rfl⟩⟩
    | 7, hk => simp at hk; subst hk; exact ⟨_, rfl, .inr rfl⟩
    | 8, hk => simp at hk; subst hk; exact ⟨_, rfl, .inl ⟨rfl, rfl⟩⟩
    | 9, hk => simp at hk; subst hk; exact ⟨_, rfl, .inl ⟨rfl, rfl⟩⟩
    | 10, hk => simp at hk; subst hk; exact ⟨_, rfl, .inr rfl⟩
    | 11, hk => simp at hk; subst hk; exact ⟨_, rfl, .inl ⟨rfl, rfl⟩⟩
    | 12, hk => simp at hk; subst hk; exact ⟨_, rfl, .inl ⟨rfl, rfl⟩⟩
    | 13, hk => simp at hk; subst hk; exact ⟨_, rfl, .inr rfl⟩
    | 14, hk => simp at hk; subst hk; exact ⟨_, rfl, .inl ⟨rfl, rfl⟩⟩
    | 15, hk => simp at hk; subst hk; exact ⟨_, rfl, .inl ⟨rfl, rfl⟩⟩
    | 16, hk => simp at hk; subst hk; exact ⟨_, rfl, .inr rfl⟩
    | 17, hk => simp at hk; subst hk; exact ⟨_, rfl, .inl ⟨rfl, rfl⟩⟩
    | 18, hk => simp at hk; subst hk; exact ⟨_, rfl, .inl ⟨rfl, rfl⟩⟩
    | 19, hk => simp at hk; subst hk; exact ⟨_, rfl, .inr rfl⟩
    | 20, hk => simp at hk; subst hk; exact ⟨_, rfl, .inl ⟨rfl, rfl⟩⟩
    | q + 21, hk => simp at hk
    have ck := xkids_ok false true labs [⟨ps 0, .any, us 0⟩, ⟨ps 1, .any, us 1⟩, ⟨ps 2, .any, us 2⟩, ⟨ps 3, .any, us 3⟩, ⟨ps 4, .any, us 4⟩, ⟨ps 5, .any, us 5⟩, ⟨ps 6, .any, us 6⟩] pl[i] (by simp) (fun q hq => by
      simp only [List.mem_cons, List.not_mem_nil, or_false] at hq
      rcases hq with rfl | rfl | rfl | rfl | rfl | rfl | rfl <;> exact hps _)
    have hkl : (kidsX pl[i] [⟨ps 0, .any, us 0⟩, ⟨ps 1, .any, us 1⟩, ⟨ps 2, .any, us 2⟩, ⟨ps 3, .any, us 3⟩, ⟨ps 4, .any, us 4⟩, ⟨ps 5, .any, us 5⟩, ⟨ps 6, .any, us 6⟩]).length ≤ 7 := by
      unfold kidsX
      rw [List.length_map]
      exact Nat.le_trans (List.length_filter_le _ _) (by simp)
    obtain ⟨ks, hks⟩ : ∃ ks, kidsX pl[i] [⟨ps 0, .any, us 0⟩, ⟨ps 1, .any, us 1⟩, ⟨ps 2, .any, us 2⟩, ⟨ps 3, .any, us 3⟩, ⟨ps 4, .any, us 4⟩, ⟨ps 5, .any, us 5⟩, ⟨ps 6, .any, us 6⟩] = ks := ⟨_, rfl⟩
    rw [hks] at ck hkl
    simp only [List.cons_append, List.nil_append] at hv
    simp -implicitDefEqProofs (maxSteps := 500000) (disch := first | decide | omega) only [↓preS, allS, decS, simprocAttr, hg]
    refine ⟨by omega, by omega, ?_⟩
    refine acK_of (FCall.of (lent := true) ck (.cons (Vw.agg2 (Vw.refl rfl) hv rfl rfl) (.cons (Vw.refl rfl) .nil)) rfl (fun _ => rfl)) ?_
    simp -implicitDefEqProofs (maxSteps := 500000) (disch := first | decide | omega) only [↓preS, allS, decS, simprocAttr]
    unfold cc10L2
    simp -implicitDefEqProofs (maxSteps := 500000) (disch := first | decide | omega) only [↓preS, allS, decS, simprocAttr]
    refine kloop7 ns hns labs pl ks hkl nl r i (by omega) hlab hnl ps us cz hcs _ (fun cs' hcs' hkk => ?_) _ (.inl rfl)
    simp -implicitDefEqProofs (maxSteps := 500000) (disch := first | decide | omega) only [↓preS, allS, decS, simprocAttr]
    exact ⟨(i + 1, cs'), .inl rfl, ⟨by simp only; omega, hcs', .step hil0 (by rw [hg, hks]; exact hkk)⟩, by simp only; omega⟩
  · have hk2 : (i : Int) = (pl.length : Int) := by omega
    simp -implicitDefEqProofs (maxSteps := 500000) (disch := first | decide | omega) only [↓preS, allS, decS, simprocAttr]
    rw [hk2]
    have hk3 : i = pl.length := by omega
    rw [hk3] at hil0
    exact hQ cz hcs hil0
end Go.Proofs.YtcplpegahpmnjaaDoor
