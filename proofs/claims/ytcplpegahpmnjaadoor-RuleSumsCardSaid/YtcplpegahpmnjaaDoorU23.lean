/- What functions of the program compute. No condition. -/
import Derived.Test.YtcplpegahpmnjaaDoorU22
set_option linter.unusedSimpArgs false
set_option linter.unusedVariables false
namespace Go.Proofs.YtcplpegahpmnjaaDoor
open Go Go.Ab
set_option maxRecDepth 20000 in
set_option maxHeartbeats 16000000 in
theorem kloop1 (ns : List Int) (hns : ns.length < 2 ^ 62) (labs pl ks : List (List UInt8)) (hks : ks.length ≤ 7) (nl r : Nat) (i : Nat) (hi : i ≤ 7) (hlab : labs.length = nl) (hnl : nl ≤ 2) (ps : Nat → List UInt8) (us : Nat → Int) (cs : Nat → List Cap) (hcs : ∀ q, q < 1 → (cs q).length = nl) (Q : AE → St → Prop)
    (hQ : ∀ cs' : Nat → List Cap, (∀ q, q < 1 → (cs' q).length = nl) → Kl ps 1 ks nl cs nl cs' → Q (.exit 6) ⟨[(1, .sl false 1 (ns.map I64)), (4, .ref 0 0 0), (6, .ref 1 0 0), (7, .sl false 1 (pl.map AV.str)), (11, .int .i64 (i : Int)), (12, .sl false 1 (ks.map AV.str)), (13, .int .i64 (labs.length : Int)), (102, .bool false)], [.box [.nils, .nils], .box [.sl false 1 (labs.map AV.str), .own 2 3 0 1], .box ([.str (ps 0), .own 3 2 0 nl, .int .i64 (us 0)] ++ List.replicate r AV.any), .arr 2 ((cs' 0).map CAP)]⟩) (s0 : St) (hs0 : Sub 0 (keepK (some [1, 4, 6, 7, 11, 12, 13]) s0) ⟨[(1, .sl false 1 (ns.map I64)), (4, .ref 0 0 0), (6, .ref 1 0 0), (7, .sl false 1 (pl.map AV.str)), (11, .int .i64 (i : Int)), (12, .sl false 1 (ks.map AV.str)), (13, .int .i64 (((0 : Nat) : Int) : Int))], [.box [.nils, .nils], .box [.sl false 1 (labs.map AV.str), .own 2 3 0 1], .box ([.str (ps 0), .own 3 2 0 nl, .int .i64 (us 0)] ++ List.replicate r AV.any), .arr 2 ((cs 0).map CAP)]⟩) :
    aw Tryd.prog (.loop 0 (some [1, 4, 6, 7, 11, 12, 13]) cc10l2) Q s0 := by
  refine aw_loopS (σ := Nat × (Nat → List Cap)) (fun q => ⟨[(1, .sl false 1 (ns.map I64)), (4, .ref 0 0 0), (6, .ref 1 0 0), (7, .sl false 1 (pl.map AV.str)), (11, .int .i64 (i : Int)), (12, .sl false 1 (ks.map AV.str)), (13, .int .i64 (q.1 : Int))], [.box [.nils, .nils], .box [.sl false 1 (labs.map AV.str), .own 2 3 0 1], .box ([.str (ps 0), .own 3 2 0 nl, .int .i64 (us 0)] ++ List.replicate r AV.any), .arr 2 ((q.2 0).map CAP)]⟩) (fun q => q.1 ≤ nl ∧ (∀ w, w < 1 → (q.2 w).length = nl) ∧ Kl ps 1 ks nl cs q.1 q.2) (fun q => nl - q.1) (0, cs) hs0 ⟨by simp, hcs, .zero⟩ ?_
  rintro ⟨k, cz⟩ ⟨hk, hcs, hkl⟩
  simp only at hk hcs hkl ⊢
  unfold cc10l2
  by_cases hkn : k < nl
  · simp -implicitDefEqProofs (maxSteps := 500000) (disch := first | decide | omega) only [↓preS, allS, decS, simprocAttr]
    unfold cc10L1
    simp -implicitDefEqProofs (maxSteps := 500000) (disch := first | decide | omega) only [↓preS, allS, decS, simprocAttr]
    refine jloop1 ns hns labs pl ks hks nl r i k hi hkn hnl ps us cz hcs _ (fun lf cs' hcs' hsh => ?_) _ (.inl rfl)
    simp -implicitDefEqProofs (maxSteps := 500000) (disch := first | decide | omega) only [↓preS, allS, decS, simprocAttr]
    exact ⟨(k + 1, cs'), .inl rfl, ⟨by simp only; omega, hcs', hkl.step hkn hsh⟩, by simp only; omega⟩
  · have hk2 : (k : Int) = (labs.length : Int) := by omega
    simp -implicitDefEqProofs (maxSteps := 500000) (disch := first | decide | omega) only [↓preS, allS, decS, simprocAttr]
    rw [hk2]
    have hk3 : k = nl := by omega
    rw [hk3] at hkl
    exact hQ cz hcs hkl
set_option maxRecDepth 20000 in
set_option maxHeartbeats 16000000 in
theorem kloop2 (ns : List Int) (hns : ns.length < 2 ^ 62) (labs pl ks : List (List UInt8)) (hks : ks.length ≤ 7) (nl r : Nat) (i : Nat) (hi : i ≤ 7) (hlab : labs.length = nl) (hnl : nl ≤ 2) (ps : Nat → List UInt8) (us : Nat → Int) (cs : Nat → List Cap) (hcs : ∀ q, q < 2 → (cs q).length = nl) (Q : AE → St → Prop)
    (hQ : ∀ cs' : Nat → List Cap, (∀ q, q < 2 → (cs' q).length = nl) → Kl ps 2 ks nl cs nl cs' → Q (.exit 6) ⟨[(1, .sl false 1 (ns.map I64)), (4, .ref 0 0 0), (6, .ref 1 0 0), (7, .sl false 1 (pl.map AV.str)), (11, .int .i64 (i : Int)), (12, .sl false 1 (ks.map AV.str)), (13, .int .i64 (labs.length : Int)), (102, .bool false)], [.box [.nils, .nils], .box [.sl false 1 (labs.map AV.str), .own 2 3 0 2], .box ([.str (ps 0), .own 3 2 0 nl, .int .i64 (us 0), .str (ps 1), .own 4 2 0 nl, .int .i64 (us 1)] ++ List.replicate r AV.any), .arr 2 ((cs' 0).map CAP), .arr 2 ((cs' 1).map CAP)]⟩) (s0 : St) (hs0 : Sub 0 (keepK (some [1, 4, 6, 7, 11, 12, 13]) s0) ⟨[(1, .sl false 1 (ns.map I64)), (4, .ref 0 0 0), (6, .ref 1 0 0), (7, .sl false 1 (pl.map AV.str)), (11, .int .i64 (i : Int)), (12, .sl false 1 (ks.map AV.str)), (13, .int .i64 (((0 : Nat) : Int) : Int))], [.box [.nils, .nils], .box [.sl false 1 (labs.map AV.str), .own 2 3 0 2], .box ([.str (ps 0), .own 3 2 0 nl, .int .i64 (us 0), .str (ps 1), .own 4 2 0 nl, .int .i64 (us 1)] ++ List.replicate r AV.any), .arr 2 ((cs 0).map CAP), .arr 2 ((cs 1).map CAP)]⟩) :
    aw Tryd.prog (.loop 0 (some [1, 4, 6, 7, 11, 12, 13]) cc10l2) Q s0 := by
  refine aw_loopS (σ := Nat × (Nat → List Cap)) (fun q => ⟨[(1, .sl false 1 (ns.map I64)), (4, .ref 0 0 0), (6, .ref 1 0 0), (7, .sl false 1 (pl.map AV.str)), (11, .int .i64 (i : Int)), (12, .sl false 1 (ks.map AV.str)), (13, .int .i64 (q.1 : Int))], [.box [.nils, .nils], .box [.sl false 1 (labs.map AV.str), .own 2 3 0 2], .box ([.str (ps 0), .own 3 2 0 nl, .int .i64 (us 0), .str (ps 1), .own 4 2 0 nl, .int .i64 (us 1)] ++ List.replicate r AV.any), .arr 2 ((q.2 0).map CAP), .arr 2 ((q.2 1).map CAP)]⟩) (fun q => q.1 ≤ nl ∧ (∀ w, w < 2 → (q.2 w).length = nl) ∧ Kl ps 2 ks nl cs q.1 q.2) (fun q => nl - q.1) (0, cs) hs0 ⟨by simp, hcs, .zero⟩ ?_
  rintro ⟨k, cz⟩ ⟨hk, hcs, hkl⟩
  simp only at hk hcs hkl ⊢
  unfold cc10l2
  by_cases hkn : k < nl
  · simp -implicitDefEqProofs (maxSteps := 500000) (disch := first | decide | omega) only [↓preS, allS, decS, simprocAttr]
    unfold cc10L1
    simp -implicitDefEqProofs (maxSteps := 500000) (disch := first | decide | omega) only [↓preS, allS, decS, simprocAttr]
    refine jloop2 ns hns labs pl ks hks nl r i k hi hkn hnl ps us cz hcs _ (fun lf cs' hcs' hsh => ?_) _ (.inl rfl)
    simp -implicitDefEqProofs (maxSteps := 500000) (disch := first | decide | omega) only [↓preS, allS, decS, simprocAttr]
    exact ⟨(k + 1, cs'), .inl rfl, ⟨by simp only; omega, hcs', hkl.step hkn hsh⟩, by simp only; omega⟩
  · have hk2 : (k : Int) = (labs.length : Int) := by omega
    simp -implicitDefEqProofs (maxSteps := 500000) (disch := first | decide | omega) only [↓preS, allS, decS, simprocAttr]
    rw [hk2]
    have hk3 : k = nl := by omega
    rw [hk3] at hkl
    exact hQ cz hcs hkl
set_option maxRecDepth 20000 in
set_option maxHeartbeats 16000000 in
theorem kloop3 (ns : List Int) (hns : ns.length < 2 ^ 62) (labs pl ks : List (List UInt8)) (hks : ks.length ≤ 7) (nl r : Nat) (i : Nat) (hi : i ≤ 7) (hlab : labs.length = nl) (hnl : nl ≤ 2) (ps : Nat → List UInt8) (us : Nat → Int) (cs : Nat → List Cap) (hcs : ∀ q, q < 3 → (cs q).length = nl) (Q : AE → St → Prop)
    (hQ : ∀ cs' : Nat → List Cap, (∀ q, q < 3 → (cs' q).length = nl) → Kl ps 3 ks nl cs nl cs' → Q (.exit 6) ⟨[(1, .sl false 1 (ns.map I64)), (4, .ref 0 0 0), (6, .ref 1 0 0), (7, .sl false 1 (pl.map AV.str)), (11, .int .i64 (i : Int)), (12, .sl false 1 (ks.map AV.str)), (13, .int .i64 (labs.length : Int)), (102, .bool false)], [.box [.nils, .nils], .box [.sl false 1 (labs.map AV.str), .own 2 3 0 3], .box ([.str (ps 0), .own 3 2 0 nl, .int .i64 (us 0), .str (ps 1), .own 4 2 0 nl, .int .i64 (us 1), .str (ps 2), .own 5 2 0 nl, .int .i64 (us 2)] ++ List.replicate r AV.any), .arr 2 ((cs' 0).map CAP), .arr 2 ((cs' 1).map CAP), .arr 2 ((cs' 2).map CAP)]⟩) (s0 : St) (hs0 : Sub 0 (keepK (some [1, 4, 6, 7, 11, 12, 13]) s0) ⟨[(1, .sl false 1 (ns.map I64)), (4, .ref 0 0 0), (6, .ref 1 0 0), (7, .sl false 1 (pl.map AV.str)), (11, .int .i64 (i : Int)), (12, .sl false 1 (ks.map AV.str)), (13, .int .i64 (((0 : Nat) : Int) : Int))], [.box [.nils, .nils], .box [.sl false 1 (labs.map AV.str), .own 2 3 0 3], .box ([.str (ps 0), .own 3 2 0 nl, .int .i64 (us 0), .str (ps 1), .own 4 2 0 nl, .int .i64 (us 1), .str (ps 2), .own 5 2 0 nl, .int .i64 (us 2)] ++ List.replicate r AV.any), .arr 2 ((cs 0).map CAP), .arr 2 ((cs 1).map CAP), .arr 2 ((cs 2).map CAP)]⟩) :
    aw Tryd.prog (.loop 0 (some [1, 4, 6, 7, 11, 12, 13]) cc10l2) Q s0 := by
  refine aw_loopS (σ := Nat × (Nat → List Cap)) (fun q => ⟨[(1, .sl false 1 (ns.map I64)), (4, .ref 0 0 0), (6, .ref 1 0 0), (7, .sl false 1 (pl.map AV.str)), (11, .int .i64 (i : Int)), (12, .sl false 1 (ks.map AV.str)), (13, .int .i64 (q.1 : Int))], [.box [.nils, .nils], .box [.sl false 1 (labs.map AV.str), .own 2 3 0 3], .box ([.str (ps 0), .own 3 2 0 nl, .int .i64 (us 0), .str (ps 1), .own 4 2 0 nl, .int .i64 (us 1), .str (ps 2), .own 5 2 0 nl, .int .i64 (us 2)] ++ List.replicate r AV.any), .arr 2 ((q.2 0).map CAP), .arr 2 ((q.2 1).map CAP), .arr 2 ((q.2 2).map CAP)]⟩) (fun q => q.1 ≤ nl ∧ (∀ w, w < 3 → (q.2 w).length = nl) ∧ Kl ps 3 ks nl cs q.1 q.2) (fun q => nl - q.1) (0, cs) hs0 ⟨by simp, hcs, .zero⟩ ?_
  rintro ⟨k, cz⟩ ⟨hk, hcs, hkl⟩
  simp only at hk hcs hkl ⊢
  unfold cc10l2
  by_cases hkn : k < nl
  · simp -implicitDefEqProofs (maxSteps := 500000) (disch := first | decide | omega) only [↓preS, allS, decS, simprocAttr]
    unfold cc10L1
    simp -implicitDefEqProofs (maxSteps := 500000) (disch := first | decide | omega) only [↓preS, allS, decS, simprocAttr]
    refine jloop3 ns hns labs pl ks hks nl r i k hi hkn hnl ps us cz hcs _ (fun lf cs' hcs' hsh => ?_) _ (.inl rfl)
    simp -implicitDefEqProofs (maxSteps := 500000) (disch := first | decide | omega) only [↓preS, allS, decS, simprocAttr]
    exact ⟨(k + 1, cs'), .inl rfl, ⟨by simp only; omega, hcs', hkl.step hkn hsh⟩, by simp only; omega⟩
  · have hk2 : (k : Int) = (labs.length : Int) := by omega
    simp -implicitDefEqProofs (maxSteps := 500000) (disch := first | decide | omega) only [↓preS, allS, decS, simprocAttr]
    rw [hk2]
    have hk3 : k = nl := by omega
    rw [hk3] at hkl
    exact hQ cz hcs hkl
set_option maxRecDepth 20000 in
set_option maxHeartbeats 16000000 in
theorem kloop5 (ns : List Int) (hns : ns.length < 2 ^ 62) (labs pl ks : List (List UInt8)) (hks : ks.length ≤ 7) (nl r : Nat) (i : Nat) (hi : i ≤ 7) (hlab : labs.length = nl) (hnl : nl ≤ 2) (ps : Nat → List UInt8) (us : Nat → Int) (cs : Nat → List Cap) (hcs : ∀ q, q < 5 → (cs q).length = nl) (Q : AE → St → Prop)
    (hQ : ∀ cs' : Nat → List Cap, (∀ q, q < 5 → (cs' q).length = nl) → Kl ps 5 ks nl cs nl cs' → Q (.exit 6) ⟨[(1, .sl false 1 (ns.map I64)), (4, .ref 0 0 0), (6, .ref 1 0 0), (7, .sl false 1 (pl.map AV.str)), (11, .int .i64 (i : Int)), (12, .sl false 1 (ks.map AV.str)), (13, .int .i64 (labs.length : Int)), (102, .bool false)], [.box [.nils, .nils], .box [.sl false 1 (labs.map AV.str), .own 2 3 0 5], .box ([.str (ps 0), .own 3 2 0 nl, .int .i64 (us 0), .str (ps 1), .own 4 2 0 nl, .int .i64 (us 1), .str (ps 2), .own 5 2 0 nl, .int .i64 (us 2), .str (ps 3), .own 6 2 0 nl, .int .i64 (us 3), .str (ps 4), .own 7 2 0 nl, .int .i64 (us 4)] ++ List.replicate r AV.any), .arr 2 ((cs' 0).map CAP), .arr 2 ((cs' 1).map CAP), .arr 2 ((cs' 2).map CAP), .arr 2 ((cs' 3).map CAP), .arr 2 ((cs' 4).map CAP)]⟩) (s0 : St) (hs0 : Sub 0 (keepK (some [1, 4, 6, 7, 11, 12, 13]) s0) ⟨[(1, .sl false 1 (ns.map I64)), (4, .ref 0 0 0), (6, .ref 1 0 0), (7, .sl false 1 (pl.map AV.str)), (11, .int .i64 (i : Int)), (12, .sl false 1 (ks.map AV.str)), (13, .int .i64 (((0 : Nat) : Int) : Int))], [.box [.nils, .nils], .box [.sl false 1 (labs.map AV.str), .own 2 3 0 5], .box ([.str (ps 0), .own 3 2 0 nl, .int .i64 (us 0), .str (ps 1), .own 4 2 0 nl, .int .i64 (us 1), .str (ps 2), .own 5 2 0 nl, .int .i64 (us 2), .str (ps 3), .own 6 2 0 nl, .int .i64 (us 3), .str (ps 4), .own 7 2 0 nl, .int .i64 (us 4)] ++ List.replicate r AV.any), .arr 2 ((cs 0).map CAP), .arr 2 ((cs 1).map CAP), .arr 2 ((cs 2).map CAP), .arr 2 ((cs 3).map CAP), .arr 2 ((cs 4).map CAP)]⟩) :
    aw Tryd.prog (.loop 0 (some [1, 4, 6, 7, 11, 12, 13]) cc10l2) Q s0 := by
  refine aw_loopS (σ := Nat × (Nat → List Cap)) (fun q => ⟨[(1, .sl false 1 (ns.map I64)), (4, .ref 0 0 0), (6, .ref 1 0 0), (7, .sl false 1 (pl.map AV.str)), (11, .int .i64 (i : Int)), (12, .sl false 1 (ks.map AV.str)), (13, .int .i64 (q.1 : Int))], [.box [.nils, .nils], .box [.sl false 1 (labs.map AV.str), .own 2 3 0 5], .box ([.str (ps 0), .own 3 2 0 nl, .int .i64 (us 0), .str (ps 1), .own 4 2 0 nl, .int .i64 (us 1), .str (ps 2), .own 5 2 0 nl, .int .i64 (us 2), .str (ps 3), .own 6 2 0 nl, .int .i64 (us 3), .str (ps 4), .own 7 2 0 nl, .int .i64 (us 4)] ++ List.replicate r AV.any), .arr 2 ((q.2 0).map CAP), .arr 2 ((q.2 1).map CAP), .arr 2 ((q.2 2).map CAP), .arr 2 ((q.2 3).map CAP), .arr 2 ((q.2 4).map CAP)]⟩) (fun q => q.1 ≤ nl ∧ (∀ w, w < 5 → (q.2 w).length = nl) ∧ Kl ps 5 ks nl cs q.1 q.2) (fun q => nl - q.1) (0, cs) hs0 ⟨by simp, hcs, .zero⟩ ?_
  rintro ⟨k, cz⟩ ⟨hk, hcs, hkl⟩
  simp only at hk hcs hkl ⊢
  unfold cc10l2
  by_cases hkn : k < nl
  · simp -implicitDefEqProofs (maxSteps := 500000) (disch := first | decide | omega) only [↓preS, allS, decS, simprocAttr]
    unfold cc10L1
    simp -implicitDefEqProofs (maxSteps := 500000) (disch := first | decide | omega) only [↓preS, allS, decS, simprocAttr]
    refine jloop5 ns hns labs pl ks hks nl r i k hi hkn hnl ps us cz hcs _ (fun lf cs' hcs' hsh => ?_) _ (.inl rfl)
    simp -implicitDefEqProofs (maxSteps := 500000) (disch := first | decide | omega) only [↓preS, allS, decS, simprocAttr]
    exact ⟨(k + 1, cs'), .inl rfl, ⟨by simp only; omega, hcs', hkl.step hkn hsh⟩, by simp only; omega⟩
  · have hk2 : (k : Int) = (labs.length : Int) := by omega
    simp -implicitDefEqProofs (maxSteps := 500000) (disch := first | decide | omega) only [↓preS, allS, decS, simprocAttr]
    rw [hk2]
    have hk3 : k = nl := by omega
    rw [hk3] at hkl
    exact hQ cz hcs hkl
set_option maxRecDepth 20000 in
set_option maxHeartbeats 16000000 in
theorem kloop7 (ns : List Int) (hns : ns.length < 2 ^ 62) (labs pl ks : List (List UInt8)) (hks : ks.length ≤ 7) (nl r : Nat) (i : Nat) (hi : i ≤ 7) (hlab : labs.length = nl) (hnl : nl ≤ 2) (ps : Nat → List UInt8) (us : Nat → Int) (cs : Nat → List Cap) (hcs : ∀ q, q < 7 → (cs q).length = nl) (Q : AE → St → Prop)
    (hQ : ∀ cs' : Nat → List Cap, (∀ q, q < 7 → (cs' q).length = nl) → Kl ps 7 ks nl cs nl cs' → Q (.exit 6) ⟨[(1, .sl false 1 (ns.map I64)), (4, .ref 0 0 0), (6, .ref 1 0 0), (7, .sl false 1 (pl.map AV.str)), (11, .int .i64 (i : Int)), (12, .sl false 1 (ks.map AV.str)), (13, .int .i64 (labs.length : Int)), (102, .bool false)], [.box [.nils, .nils], .box [.sl false 1 (labs.map AV.str), .own 2 3 0 7], .box ([.str (ps 0), .own 3 2 0 nl, .int .i64 (us 0), .str (ps 1), .own 4 2 0 nl, .int .i64 (us 1), .str (ps 2), .own 5 2 0 nl, .int .i64 (us 2), .str (ps 3), .own 6 2 0 nl, .int .i64 (us 3), .str (ps 4), .own 7 2 0 nl, .int .i64 (us 4), .str (ps 5), .own 8 2 0 nl, .int .i64 (us 5), .str (ps 6), .own 9 2 0 nl, .int .i64 (us 6)] ++ List.replicate r AV.any), .arr 2 ((cs' 0).map CAP), .arr 2 ((cs' 1).map CAP), .arr 2 ((cs' 2).map CAP), .arr 2 ((cs' 3).map CAP), .arr 2 ((cs' 4).map CAP), .arr 2 ((cs' 5).map CAP), .arr 2 ((cs' 6).map CAP)]⟩) (s0 : St) (hs0 : Sub 0 (keepK (some [1, 4, 6, 7, 11, 12, 13]) s0) ⟨[(1, .sl false 1 (ns.map I64)), (4, .ref 0 0 0), (6, .ref 1 0 0), (7, .sl false 1 (pl.map AV.str)), (11, .int .i64 (i : Int)), (12, .sl false 1 (ks.map AV.str)), (13, .int .i64 (((0 : Nat) : Int) : Int))], [.box [.nils, .nils], .box [.sl false 1 (labs.map AV.str), .own 2 3 0 7], .box ([.str (ps 0), .own 3 2 0 nl, .int .i64 (us 0), .str (ps 1), .own 4 2 0 nl, .int .i64 (us 1), .str (ps 2), .own 5 2 0 nl, .int .i64 (us 2), .str (ps 3), .own 6 2 0 nl, .int .i64 (us 3), .str (ps 4), .own 7 2 0 nl, .int .i64 (us 4), .str (ps 5), .own 8 2 0 nl, .int .i64 (us 5), .str (ps 6), .own 9 2 0 nl, .int .i64 (us 6)] ++ List.replicate r AV.any), .arr 2 ((cs 0).map CAP), .arr 2 ((cs 1).map CAP), .arr 2 ((cs 2).map CAP), .arr 2 ((cs 3).map CAP), .arr 2 ((cs 4).map CAP), .arr 2 ((cs 5).map CAP), .arr 2 ((cs 6).map CAP)]⟩) :
    aw Tryd.prog (.loop 0 (some [1, 4, 6, 7, 11, 12, 13]) cc10l2) Q s0 := by
  refine aw_loopS (σ := Nat × (Nat → List Cap)) (fun q => ⟨[(1, .sl false 1 (ns.map I64)), (4, .ref 0 0 0), (6, .ref 1 0 0), (7, .sl false 1 (pl.map AV.str)), (11, .int .i64 (i : Int)), (12, .sl false 1 (ks.map AV.str)), (13, .int .i64 (q.1 : Int))], [.box [.nils, .nils], .box [.sl false 1 (labs.map AV.str), .own 2 3 0 7], .box ([.str (ps 0), .own 3 2 0 nl, .int .i64 (us 0), .str (ps 1), .own 4 2 0 nl, .int .i64 (us 1), .str (ps 2), .own 5 2 0 nl, .int .i64 (us 2), .str (ps 3), .own 6 2 0 nl, .int .i64 (us 3), .str (ps 4), .own 7 2 0 nl, .int .i64 (us 4), .str (ps 5), .own 8 2 0 nl, .int .i64 (us 5), .str (ps 6), .own 9 2 0 nl, .int .i64 (us 6)] ++ List.replicate r AV.any), .arr 2 ((q.2 0).map CAP), .arr 2 ((q.2 1).map CAP), .arr 2 ((q.2 2).map CAP), .arr 2 ((q.2 3).map CAP), .arr 2 ((q.2 4).map CAP), .arr 2 ((q.2 5).map CAP), .arr 2 ((q.2 6).map CAP)]⟩) (fun q => q.1 ≤ nl ∧ (∀ w, w < 7 → (q.2 w).length = nl) ∧ Kl ps 7 ks nl cs q.1 q.2) (fun q => nl - q.1) (0, cs) hs0 ⟨by simp, hcs, .zero⟩ ?_
  rintro ⟨k, cz⟩ ⟨hk, hcs, hkl⟩
  simp only at hk hcs hkl ⊢
  unfold cc10l2
  by_cases hkn : k < nl
  · simp -implicitDefEqProofs (maxSteps := 500000) (disch := first | decide | omega) only [↓preS, allS, decS, simprocAttr]
    unfold cc10L1
    simp -implicitDefEqProofs (maxSteps := 500000) (disch := first | decide | omega) only [↓preS, allS, decS, simprocAttr]
    refine jloop7 ns hns labs pl ks hks nl r i k hi hkn hnl ps us cz hcs _ (fun lf cs' hcs' hsh => ?_) _ (.inl rfl)
    simp -implicitDefEqProofs (maxSteps := 500000) (disch := first | decide | omega) only [↓preS, allS, decS, simprocAttr]
    exact ⟨(k + 1, cs'), .inl rfl, ⟨by simp only; omega, hcs', hkl.step hkn hsh⟩, by simp only; omega⟩
  · have hk2 : (k : Int) = (labs.length : Int) := by omega
    simp -implicitDefEqProofs (maxSteps := 500000) (disch := first | decide | omega) only [↓preS, allS, decS, simprocAttr]
    rw [hk2]
    have hk3 : k = nl := by omega
    rw [hk3] at hkl
    exact hQ cz hcs hkl
end Go.Proofs.YtcplpegahpmnjaaDoor
