/- What functions of the program compute. No condition. -/
import Derived.Test.YtcplpegahpmnjaaDoorU20
set_option linter.unusedSimpArgs false
set_option linter.unusedVariables false
namespace Go.Proofs.YtcplpegahpmnjaaDoor
open Go Go.Ab
def updF (cs : Nat → List Cap) (m k : Nat) (v : Cap) : Nat → List Cap := fun w => if w = m then (cs m).set k v else cs w
theorem updF_len {cs : Nat → List Cap} {n nl m k : Nat} {v : Cap} (h : ∀ w, w < n → (cs w).length = nl) (hm : m < n) : ∀ w, w < n → (updF cs m k v w).length = nl := fun w hw => by
  unfold updF
  split
  · rw [List.length_set]; exact h m hm
  · exact h w hw
def updK (ps : Nat → List UInt8) (n : Nat) (p : List UInt8) (k : Nat) (v : Cap) (cs : Nat → List Cap) : Nat → List Cap := fun w => if w < n ∧ (ps w == p) = true then (cs w).set k v else cs w
theorem updK_zero {ps : Nat → List UInt8} {p : List UInt8} {k : Nat} {v : Cap} {cs : Nat → List Cap} : updK ps 0 p k v cs = cs := by
  funext w
  simp [updK]
theorem updK_no {ps : Nat → List UInt8} {p : List UInt8} {k m : Nat} {v : Cap} {cs : Nat → List Cap} (h : (ps m == p) = false) : updK ps (m + 1) p k v cs = updK ps m p k v cs := by
  funext w
  unfold updK
  by_cases hw : w = m
  · subst hw; simp [h]
  · have : w < m + 1 ↔ w < m := by omega
    simp only [this]
theorem updK_yes {ps : Nat → List UInt8} {p : List UInt8} {k m : Nat} {v : Cap} {cs : Nat → List Cap} (h : (ps m == p) = true) : updF (updK ps m p k v cs) m k v = updK ps (m + 1) p k v cs := by
  funext w
  unfold updF updK
  by_cases hw : w = m
  · subst hw; simp [h]
  · have : w < m + 1 ↔ w < m := by omega
    simp only [this, if_neg hw]
inductive Sh (ps : Nat → List UInt8) (n : Nat) (ks : List (List UInt8)) (k : Nat) (cs0 : Nat → List Cap) : Nat → Int → (Nat → List Cap) → Prop where
  | zero : Sh ps n ks k cs0 0 10000 cs0
  | step {j : Nat} {left x y : Int} {cs : Nat → List Cap} (h : j < ks.length) : Sh ps n ks k cs0 j left cs → 0 ≤ x → x ≤ left → x ≤ y → y ≤ 10000 → (¬ j + 1 < ks.length → x = left) → Sh ps n ks k cs0 (j + 1) (left - x) (updK ps n ks[j] k ⟨x, y⟩ cs)
theorem Sh.of {ps : Nat → List UInt8} {n : Nat} {ks : List (List UInt8)} {k : Nat} {cs0 cs : Nat → List Cap} {j : Nat} {l l' : Int} (h : Sh ps n ks k cs0 j l cs) (e : l = l') : Sh ps n ks k cs0 j l' cs := e ▸ h
inductive Kl (ps : Nat → List UInt8) (n : Nat) (ks : List (List UInt8)) (nl : Nat) (cs0 : Nat → List Cap) : Nat → (Nat → List Cap) → Prop where
  | zero : Kl ps n ks nl cs0 0 cs0
  | step {k : Nat} {lf : Int} {cs cs' : Nat → List Cap} (h : k < nl) : Kl ps n ks nl cs0 k cs → Sh ps n ks k cs ks.length lf cs' → Kl ps n ks nl cs0 (k + 1) cs'
inductive Il (ps : Nat → List UInt8) (n : Nat) (kf : Nat → List (List UInt8)) (nl : Nat) (cs0 : Nat → List Cap) : Nat → (Nat → List Cap) → Prop where
  | zero : Il ps n kf nl cs0 0 cs0
  | step {i : Nat} {cs cs' : Nat → List Cap} : Il ps n kf nl cs0 i cs → Kl ps n (kf i) nl cs nl cs' → Il ps n kf nl cs0 (i + 1) cs'
set_option maxRecDepth 20000 in
set_option maxHeartbeats 16000000 in
theorem mloop1 (ns : List Int) (labs pl ks : List (List UInt8)) (nl r : Nat) (i left x y : Int) (j k : Nat) (hj : j < ks.length) (hk : k < nl) (ps : Nat → List UInt8) (us : Nat → Int) (cs : Nat → List Cap) (hcs : ∀ q, q < 1 → (cs q).length = nl) (Q : AE → St → Prop)
    (hQ : ∀ cs' : Nat → List Cap, (∀ q, q < 1 → (cs' q).length = nl) → cs' = updK ps 1 ks[j] k ⟨x, y⟩ cs → Q (.exit 10) ⟨[(1, .sl false 1 (ns.map I64)), (4, .ref 0 0 0), (6, .ref 1 0 0), (7, .sl false 1 (pl.map AV.str)), (11, .int .i64 i), (12, .sl false 1 (ks.map AV.str)), (13, .int .i64 (k : Int)), (14, .int .i64 left), (15, .int .i64 (j : Int)), (16, .int .i64 x), (17, .int .i64 y), (18, .int .i64 (1 : Int)), (170, .bool false)], [.box [.nils, .nils], .box [.sl false 1 (labs.map AV.str), .own 2 3 0 1], .box ([.str (ps 0), .own 3 2 0 nl, .int .i64 (us 0)] ++ List.replicate r AV.any), .arr 2 ((cs' 0).map CAP)]⟩)
    (s0 : St) (hs0 : Sub 0 (keepK (some [1, 4, 6, 7, 11, 12, 13, 14, 15, 16, 17, 18]) s0) ⟨[(1, .sl false 1 (ns.map I64)), (4, .ref 0 0 0), (6, .ref 1 0 0), (7, .sl false 1 (pl.map AV.str)), (11, .int .i64 i), (12, .sl false 1 (ks.map AV.str)), (13, .int .i64 (k : Int)), (14, .int .i64 left), (15, .int .i64 (j : Int)), (16, .int .i64 x), (17, .int .i64 y), (18, .int .i64 (((0 : Nat) : Int) : Int))], [.box [.nils, .nils], .box [.sl false 1 (labs.map AV.str), .own 2 3 0 1], .box ([.str (ps 0), .own 3 2 0 nl, .int .i64 (us 0)] ++ List.replicate r AV.any), .arr 2 ((cs 0).map CAP)]⟩) : aw Tryd.prog (.loop 0 (some [1, 4, 6, 7, 11, 12, 13, 14, 15, 16, 17, 18]) cc10l0) Q s0 := by
  refine aw_loopS (σ := Nat × (Nat → List Cap)) (fun q => ⟨[(1, .sl false 1 (ns.map I64)), (4, .ref 0 0 0), (6, .ref 1 0 0), (7, .sl false 1 (pl.map AV.str)), (11, .int .i64 i), (12, .sl false 1 (ks.map AV.str)), (13, .int .i64 (k : Int)), (14, .int .i64 left), (15, .int .i64 (j : Int)), (16, .int .i64 x), (17, .int .i64 y), (18, .int .i64 (q.1 : Int))], [.box [.nils, .nils], .box [.sl false 1 (labs.map AV.str), .own 2 3 0 1], .box ([.str (ps 0), .own 3 2 0 nl, .int .i64 (us 0)] ++ List.replicate r AV.any), .arr 2 ((q.2 0).map CAP)]⟩) (fun q => q.1 ≤ 1 ∧ (∀ w, w < 1 → (q.2 w).length = nl) ∧ q.2 = updK ps q.1 ks[j] k ⟨x, y⟩ cs) (fun q => 1 - q.1) (0, cs) hs0 ⟨by simp, hcs, updK_zero.symm⟩ ?_
  rintro ⟨m, cz⟩ ⟨hm, hcs, hcz⟩
  simp only at hm hcs hcz ⊢
  have hg : ks.getD j default = ks[j] := by simp [hj]
  unfold cc10l0
  have hfill : fillAV [.int .i64 0, .int .i64 0] [(0, 1, .int .i64 x), (1, 1, .int .i64 y)] = capC ⟨x, y⟩ := rfl
  rcases (by omega : m = 0 ∨ m = 1) with rfl | rfl
  · cases hp : (ps 0 == ks[j])
    · simp -implicitDefEqProofs (maxSteps := 500000) (disch := first | decide | omega) only [↓preS, allS, decS, simprocAttr, hg, hp]
      repeat (refine And.intro (by omega) ?_)
      exact ⟨(0 + 1, cz), .inl rfl, ⟨by simp only; omega, hcs, by simp only; rw [updK_no hp]; exact hcz⟩, by simp only; omega⟩
    · have h0 := hcs 0 (by omega)
      simp -implicitDefEqProofs (maxSteps := 500000) (disch := first | decide | omega) only [↓preS, allS, decS, simprocAttr, hg, hp, capS, hfill, fillOk, List.append_nil]
      repeat (refine And.intro (by omega) ?_)
      exact ⟨(0 + 1, updF cz 0 k ⟨x, y⟩), .inl rfl, ⟨by simp only; omega, updF_len hcs (by omega), by simp only; rw [hcz]; exact updK_yes hp⟩, by simp only; omega⟩
  · simp -implicitDefEqProofs (maxSteps := 500000) (disch := first | decide | omega) only [↓preS, allS, decS, simprocAttr]
    exact hQ cz hcs hcz
set_option maxRecDepth 20000 in
set_option maxHeartbeats 16000000 in
theorem mloop2 (ns : List Int) (labs pl ks : List (List UInt8)) (nl r : Nat) (i left x y : Int) (j k : Nat) (hj : j < ks.length) (hk : k < nl) (ps : Nat → List UInt8) (us : Nat → Int) (cs : Nat → List Cap) (hcs : ∀ q, q < 2 → (cs q).length = nl) (Q : AE → St → Prop)
    (hQ : ∀ cs' : Nat → List Cap, (∀ q, q < 2 → (cs' q).length = nl) → cs' = updK ps 2 ks[j] k ⟨x, y⟩ cs → Q (.exit 10) ⟨[(1, .sl false 1 (ns.map I64)), (4, .ref 0 0 0), (6, .ref 1 0 0), (7, .sl false 1 (pl.map AV.str)), (11, .int .i64 i), (12, .sl false 1 (ks.map AV.str)), (13, .int .i64 (k : Int)), (14, .int .i64 left), (15, .int .i64 (j : Int)), (16, .int .i64 x), (17, .int .i64 y), (18, .int .i64 (2 : Int)), (170, .bool false)], [.box [.nils, .nils], .box [.sl false 1 (labs.map AV.str), .own 2 3 0 2], .box ([.str (ps 0), .own 3 2 0 nl, .int .i64 (us 0), .str (ps 1), .own 4 2 0 nl, .int .i64 (us 1)] ++ List.replicate r AV.any), .arr 2 ((cs' 0).map CAP), .arr 2 ((cs' 1).map CAP)]⟩)
    (s0 : St) (hs0 : Sub 0 (keepK (some [1, 4, 6, 7, 11, 12, 13, 14, 15, 16, 17, 18]) s0) ⟨[(1, .sl false 1 (ns.map I64)), (4, .ref 0 0 0), (6, .ref 1 0 0), (7, .sl false 1 (pl.map AV.str)), (11, .int .i64 i), (12, .sl false 1 (ks.map AV.str)), (13, .int .i64 (k : Int)), (14, .int .i64 left), (15, .int .i64 (j : Int)), (16, .int .i64 x), (17, .int .i64 y), (18, .int .i64 (((0 : Nat) : Int) : Int))], [.box [.nils, .nils], .box [.sl false 1 (labs.map AV.str), .own 2 3 0 2], .box ([.str (ps 0), .own 3 2 0 nl, .int .i64 (us 0), .str (ps 1), .own 4 2 0 nl, .int .i64 (us 1)] ++ List.replicate r AV.any), .arr 2 ((cs 0).map CAP), .arr 2 ((cs 1).map CAP)]⟩) : aw Tryd.prog (.loop 0 (some [1, 4, 6, 7, 11, 12, 13, 14, 15, 16, 17, 18]) cc10l0) Q s0 := by
  refine aw_loopS (σ := Nat × (Nat → List Cap)) (fun q => ⟨[(1, .sl false 1 (ns.map I64)), (4, .ref 0 0 0), (6, .ref 1 0 0), (7, .sl false 1 (pl.map AV.str)), (11, .int .i64 i), (12, .sl false 1 (ks.map AV.str)), (13, .int .i64 (k : Int)), (14, .int .i64 left), (15, .int .i64 (j : Int)), (16, .int .i64 x), (17, .int .i64 y), (18, .int .i64 (q.1 : Int))], [.box [.nils, .nils], .box [.sl false 1 (labs.map AV.str), .own 2 3 0 2], .box ([.str (ps 0), .own 3 2 0 nl, .int .i64 (us 0), .str (ps 1), .own 4 2 0 nl, .int .i64 (us 1)] ++ List.replicate r AV.any), .arr 2 ((q.2 0).map CAP), .arr 2 ((q.2 1).map CAP)]⟩) (fun q => q.1 ≤ 2 ∧ (∀ w, w < 2 → (q.2 w).length = nl) ∧ q.2 = updK ps q.1 ks[j] k ⟨x, y⟩ cs) (fun q => 2 - q.1) (0, cs) hs0 ⟨by simp, hcs, updK_zero.symm⟩ ?_
  rintro ⟨m, cz⟩ ⟨hm, hcs, hcz⟩
  simp only at hm hcs hcz ⊢
  have hg : ks.getD j default = ks[j] := by simp [hj]
  unfold cc10l0
  have hfill : fillAV [.int .i64 0, .int .i64 0] [(0, 1, .int .i64 x), (1, 1, .int .i64 y)] = capC ⟨x, y⟩ := rfl
  rcases (by omega : m = 0 ∨ m = 1 ∨ m = 2) with rfl | rfl | rfl
  · cases hp : (ps 0 == ks[j])
    · simp -implicitDefEqProofs (maxSteps := 500000) (disch := first | decide | omega) only [↓preS, allS, decS, simprocAttr, hg, hp]
      repeat (refine And.intro (by omega) ?_)
      exact ⟨(0 + 1, cz), .inl rfl, ⟨by simp only; omega, hcs, by simp only; rw [updK_no hp]; exact hcz⟩, by simp only; omega⟩
    · have h0 := hcs 0 (by omega)
      simp -implicitDefEqProofs (maxSteps := 500000) (disch := first | decide | omega) only [↓preS, allS, decS, simprocAttr, hg, hp, capS, hfill, fillOk, List.append_nil]
      repeat (refine And.intro (by omega) ?_)
      exact ⟨(0 + 1, updF cz 0 k ⟨x, y⟩), .inl rfl, ⟨by simp only; omega, updF_len hcs (by omega), by simp only; rw [hcz]; exact updK_yes hp⟩, by simp only; omega⟩
  · cases hp : (ps 1 == ks[j])
    · simp -implicitDefEqProofs (maxSteps := 500000) (disch := first | decide | omega) only [↓preS, allS, decS, simprocAttr, hg, hp]
      repeat (refine And.intro (by omega) ?_)
      exact ⟨(1 + 1, cz), .inl rfl, ⟨by simp only; omega, hcs, by simp only; rw [updK_no hp]; exact hcz⟩, by simp only; omega⟩
    · have h0 := hcs 1 (by omega)
      simp -implicitDefEqProofs (maxSteps := 500000) (disch := first | decide | omega) only [↓preS, allS, decS, simprocAttr, hg, hp, capS, hfill, fillOk, List.append_nil]
      repeat (refine And.intro (by omega) ?_)
      exact ⟨(1 + 1, updF cz 1 k ⟨x, y⟩), .inl rfl, ⟨by simp only; omega, updF_len hcs (by omega), by simp only; rw [hcz]; exact updK_yes hp⟩, by simp only; omega⟩
  · simp -implicitDefEqProofs (maxSteps := 500000) (disch := first | decide | omega) only [↓preS, allS, decS, simprocAttr]
    exact hQ cz hcs hcz
set_option maxRecDepth 20000 in
set_option maxHeartbeats 16000000 in
theorem mloop3 (ns : List Int) (labs pl ks : List (List UInt8)) (nl r : Nat) (i left x y : Int) (j k : Nat) (hj : j < ks.length) (hk : k < nl) (ps : Nat → List UInt8) (us : Nat → Int) (cs : Nat → List Cap) (hcs : ∀ q, q < 3 → (cs q).length = nl) (Q : AE → St → Prop)
    (hQ : ∀ cs' : Nat → List Cap, (∀ q, q < 3 → (cs' q).length = nl) → cs' = updK ps 3 ks[j] k ⟨x, y⟩ cs → Q (.exit 10) ⟨[(1, .sl false 1 (ns.map I64)), (4, .ref 0 0 0), (6, .ref 1 0 0), (7, .sl false 1 (pl.map AV.str)), (11, .int .i64 i), (12, .sl false 1 (ks.map AV.str)), (13, .int .i64 (k : Int)), (14, .int .i64 left), (15, .int .i64 (j : Int)), (16, .int .i64 x), (17, .int .i64 y), (18, .int .i64 (3 : Int)), (170, .bool false)], [.box [.nils, .nils], .box [.sl false 1 (labs.map AV.str), .own 2 3 0 3], .box ([.str (ps 0), .own 3 2 0 nl, .int .i64 (us 0), .str (ps 1), .own 4 2 0 nl, .int .i64 (us 1), .str (ps 2), .own 5 2 0 nl, .int .i64 (us 2)] ++ List.replicate r AV.any), .arr 2 ((cs' 0).map CAP), .arr 2 ((cs' 1).map CAP), .arr 2 ((cs' 2).map CAP)]⟩)
    (s0 : St) (hs0 : Sub 0 (keepK (some [1, 4, 6, 7, 11, 12, 13, 14, 15, 16, 17, 18]) s0) ⟨[(1, .sl false 1 (ns.map I64)), (4, .ref 0 0 0), (6, .ref 1 0 0), (7, .sl false 1 (pl.map AV.str)), (11, .int .i64 i), (12, .sl false 1 (ks.map AV.str)), (13, .int .i64 (k : Int)), (14, .int .i64 left), (15, .int .i64 (j : Int)), (16, .int .i64 x), (17, .int .i64 y), (18, .int .i64 (((0 : Nat) : Int) : Int))], [.box [.nils, .nils], .box [.sl false 1 (labs.map AV.str), .own 2 3 0 3], .box ([.str (ps 0), .own 3 2 0 nl, .int .i64 (us 0), .str (ps 1), .own 4 2 0 nl, .int .i64 (us 1), .str (ps 2), .own 5 2 0 nl, .int .i64 (us 2)] ++ List.replicate r AV.any), .arr 2 ((cs 0).map CAP), .arr 2 ((cs 1).map CAP), .arr 2 ((cs 2).map CAP)]⟩) : aw Tryd.prog (.loop 0 (some [1, 4, 6, 7, 11, 12, 13, 14, 15, 16, 17, 18]) cc10l0) Q s0 := by
  refine aw_loopS (σ := Nat × (Nat → List Cap)) (fun q => ⟨[(1, .sl false 1 (ns.map I64)), (4, .ref 0 0 0), (6, .ref 1 0 0), (7, .sl false 1 (pl.map AV.str)), (11, .int .i64 i), (12, .sl false 1 (ks.map AV.str)), (13, .int .i64 (k : Int)), (14, .int .i64 left), (15, .int .i64 (j : Int)), (16, .int .i64 x), (17, .int .i64 y), (18, .int .i64 (q.1 : Int))], [.box [.nils, .nils], .box [.sl false 1 (labs.map AV.str), .own 2 3 0 3], .box ([.str (ps 0), .own 3 2 0 nl, .int .i64 (us 0), .str (ps 1), .own 4 2 0 nl, .int .i64 (us 1), .str (ps 2), .own 5 2 0 nl, .int .i64 (us 2)] ++ List.replicate r AV.any), .arr 2 ((q.2 0).map CAP), .arr 2 ((q.2 1).map CAP), .arr 2 ((q.2 2).map CAP)]⟩) (fun q => q.1 ≤ 3 ∧ (∀ w, w < 3 → (q.2 w).length = nl) ∧ q.2 = updK ps q.1 ks[j] k ⟨x, y⟩ cs) (fun q => 3 - q.1) (0, cs) hs0 ⟨by simp, hcs, updK_zero.symm⟩ ?_
  rintro ⟨m, cz⟩ ⟨hm, hcs, hcz⟩
  simp only at hm hcs hcz ⊢
  have hg : ks.getD j default = ks[j] := by simp [hj]
  unfold cc10l0
  have hfill : fillAV [.int .i64 0, .int .i64 0] [(0, 1, .int .i64 x), (1, 1, .int .i64 y)] = capC ⟨x, y⟩ := rfl
  rcases (by omega : m = 0 ∨ m = 1 ∨ m = 2 ∨ m = 3) with rfl | rfl | rfl | rfl
  · cases hp : (ps 0 == ks[j])
    · simp -implicitDefEqProofs (maxSteps := 500000) (disch := first | decide | omega) only [↓preS, allS, decS, simprocAttr, hg, hp]
      repeat (refine And.intro (by omega) ?_)
      exact ⟨(0 + 1, cz), .inl rfl, ⟨by simp only; omega, hcs, by simp only; rw [updK_no hp]; exact hcz⟩, by simp only; omega⟩
    · have h0 := hcs 0 (by omega)
      simp -implicitDefEqProofs (maxSteps := 500000) (disch := first | decide | omega) only [↓preS, allS, decS, simprocAttr, hg, hp, capS, hfill, fillOk, List.append_nil]
      repeat (refine And.intro (by omega) ?_)
      exact ⟨(0 + 1, updF cz 0 k ⟨x, y⟩), .inl rfl, ⟨by simp only; omega, updF_len hcs (by omega), by simp only; rw [hcz]; exact updK_yes hp⟩, by simp only; omega⟩
  · cases hp : (ps 1 == ks[j])
    · simp -implicitDefEqProofs (maxSteps := 500000) (disch := first | decide | omega) only [↓preS, allS, decS, simprocAttr, hg, hp]
      repeat (refine And.intro (by omega) ?_)
      exact ⟨(1 + 1, cz), .inl rfl, ⟨by simp only; omega, hcs, by simp only; rw [updK_no hp]; exact hcz⟩, by simp only; omega⟩
    · have h0 := hcs 1 (by omega)
      simp -implicitDefEqProofs (maxSteps := 500000) (disch := first | decide | omega) only [↓preS, allS, decS, simprocAttr, hg, hp, capS, hfill, fillOk, List.append_nil]
      repeat (refine And.intro (by omega) ?_)
      exact ⟨(1 + 1, updF cz 1 k ⟨x, y⟩), .inl rfl, ⟨by simp only; omega, updF_len hcs (by omega), by simp only; rw [hcz]; exact updK_yes hp⟩, by simp only; omega⟩
  · cases hp : (ps 2 == ks[j])
    · simp -implicitDefEqProofs (maxSteps := 500000) (disch := first | decide | omega) only [↓preS, allS, decS, simprocAttr, hg, hp]
      repeat (refine And.intro (by omega) ?_)
      exact ⟨(2 + 1, cz), .inl rfl, ⟨by simp only; omega, hcs, by simp only; rw [updK_no hp]; exact hcz⟩, by simp only; omega⟩
    · have h0 := hcs 2 (by omega)
      simp -implicitDefEqProofs (maxSteps := 500000) (disch := first | decide | omega) only [↓preS, allS, decS, simprocAttr, hg, hp, capS, hfill, fillOk, List.append_nil]
      repeat (refine And.intro (by omega) ?_)
      exact ⟨(2 + 1, updF cz 2 k ⟨x, y⟩), .inl rfl, ⟨by simp only; omega, updF_len hcs (by omega), by simp only; rw [hcz]; exact updK_yes hp⟩, by simp only; omega⟩
  · simp -implicitDefEqProofs (maxSteps := 500000) (disch := first | decide | omega) only [↓preS, allS, decS, simprocAttr]
    exact hQ cz hcs hcz
set_option maxRecDepth 20000 in
set_option maxHeartbeats 16000000 in
theorem mloop5 (ns : List Int) (labs pl ks : List (List UInt8)) (nl r : Nat) (i left x y : Int) (j k : Nat) (hj : j < ks.length) (hk : k < nl) (ps : Nat → List UInt8) (us : Nat → Int) (cs : Nat → List Cap) (hcs : ∀ q, q < 5 → (cs q).length = nl) (Q : AE → St → Prop)
    (hQ : ∀ cs' : Nat → List Cap, (∀ q, q < 5 → (cs' q).length = nl) → cs' = updK ps 5 ks[j] k ⟨x, y⟩ cs → Q (.exit 10) ⟨[(1, .sl false 1 (ns.map I64)), (4, .ref 0 0 0), (6, .ref 1 0 0), (7, .sl false 1 (pl.map AV.str)), (11, .int .i64 i), (12, .sl false 1 (ks.map AV.str)), (13, .int .i64 (k : Int)), (14, .int .i64 left), (15, .int .i64 (j : Int)), (16, .int .i64 x), (17, .int .i64 y), (18, .int .i64 (5 : Int)), (170, .bool false)], [.box [.nils, .nils], .box [.sl false 1 (labs.map AV.str), .own 2 3 0 5], .box ([.str (ps 0), .own 3 2 0 nl, .int .i64 (us 0), .str (ps 1), .own 4 2 0 nl, .int .i64 (us 1), .str (ps 2), .own 5 2 0 nl, .int .i64 (us 2), .str (ps 3), .own 6 2 0 nl, .int .i64 (us 3), .str (ps 4), .own 7 2 0 nl, .int .i64 (us 4)] ++ List.replicate r AV.any), .arr 2 ((cs' 0).map CAP), .arr 2 ((cs' 1).map CAP), .arr 2 ((cs' 2).map CAP), .arr 2 ((cs' 3).map CAP), .arr 2 ((cs' 4).map CAP)]⟩)
    (s0 : St) (hs0 : Sub 0 (keepK (some [1, 4, 6, 7, 11, 12, 13, 14, 15, 16, 17, 18]) s0) ⟨[(1, .sl false 1 (ns.map I64)), (4, .ref 0 0 0), (6, .ref 1 0 0), (7, .sl false 1 (pl.map AV.str)), (11, .int .i64 i), (12, .sl false 1 (ks.map AV.str)), (13, .int .i64 (k : Int)), (14, .int .i64 left), (15, .int .i64 (j : Int)), (16, .int .i64 x), (17, .int .i64 y), (18, .int .i64 (((0 : Nat) : Int) : Int))], [.box [.nils, .nils], .box [.sl false 1 (labs.map AV.str), .own 2 3 0 5], .box ([.str (ps 0), .own 3 2 0 nl, .int .i64 (us 0), .str (ps 1), .own 4 2 0 nl, .int .i64 (us 1), .str (ps 2), .own 5 2 0 nl, .int .i64 (us 2), .str (ps 3), .own 6 2 0 nl, .int .i64 (us 3), .str (ps 4), .own 7 2 0 nl, .int .i64 (us 4)] ++ List.replicate r AV.any), .arr 2 ((cs 0).map CAP), .arr 2 ((cs 1).map CAP), .arr 2 ((cs 2).map CAP), .arr 2 ((cs 3).map CAP), .arr 2 ((cs 4).map CAP)]⟩) : aw Tryd.prog (.loop 0 (some [1, 4, 6, 7, 11, 12, 13, 14, 15, 16, 17, 18]) cc10l0) Q s0 := by
  refine aw_loopS (σ := Nat × (Nat → List Cap)) (fun q => ⟨[(1, .sl false 1 (ns.map I64)), (4, .ref 0 0 0), (6, .ref 1 0 0), (7, .sl false 1 (pl.map AV.str)), (11, .int .i64 i), (12, .sl false 1 (ks.map AV.str)), (13, .int .i64 (k : Int)), (14, .int .i64 left), (15, .int .i64 (j : Int)), (16, .int .i64 x), (17, .int .i64 y), (18, .int .i64 (q.1 : Int))], [.box [.nils, .nils], .box [.sl false 1 (labs.map AV.str), .own 2 3 0 5], .box ([.str (ps 0), .own 3 2 0 nl, .int .i64 (us 0), .str (ps 1), .own 4 2 0 nl, .int .i64 (us 1), .str (ps 2), .own 5 2 0 nl, .int .i64 (us 2), .str (ps 3), .own 6 2 0 nl, .int .i64 (us 3), .str (ps 4), .own 7 2 0 nl, .int .i64 (us 4)] ++ List.replicate r AV.any), .arr 2 ((q.2 0).map CAP), .arr 2 ((q.2 1).map CAP), .arr 2 ((q.2 2).map CAP), .arr 2 ((q.2 3).map CAP), .arr 2 ((q.2 4).map CAP)]⟩) (fun q => q.1 ≤ 5 ∧ (∀ w, w < 5 → (q.2 w).length = nl) ∧ q.2 = updK ps q.1 ks[j] k ⟨x, y⟩ cs) (fun q => 5 - q.1) (0, cs) hs0 ⟨by simp, hcs, updK_zero.symm⟩ ?_
  rintro ⟨m, cz⟩ ⟨hm, hcs, hcz⟩
  simp only at hm hcs hcz ⊢
  have hg : ks.getD j default = ks[j] := by simp [hj]
  unfold cc10l0
  have hfill : fillAV [.int .i64 0, .int .i64 0] [(0, 1, .int .i64 x), (1, 1, .int .i64 y)] = capC ⟨x, y⟩ := rfl
  rcases (by omega : m = 0 ∨ m = 1 ∨ m = 2 ∨ m = 3 ∨ m = 4 ∨ m = 5) with rfl | rfl | rfl | rfl | rfl | rfl
  · cases hp : (ps 0 == ks[j])
    · simp -implicitDefEqProofs (maxSteps := 500000) (disch := first | decide | omega) only [↓preS, allS, decS, simprocAttr, hg, hp]
      repeat (refine And.intro (by omega) ?_)
      exact ⟨(0 + 1, cz), .inl rfl, ⟨by simp only; omega, hcs, by simp only; rw [updK_no hp]; exact hcz⟩, by simp only; omega⟩
    · have h0 := hcs 0 (by omega)
      simp -implicitDefEqProofs (maxSteps := 500000) (disch := first | decide | omega) only [↓preS, allS, decS, simprocAttr, hg, hp, capS, hfill, fillOk, List.append_nil]
      repeat (refine And.intro (by omega) ?_)
      exact ⟨(0 + 1, updF cz 0 k ⟨x, y⟩), .inl rfl, ⟨by simp only; omega, updF_len hcs (by omega), by simp only; rw [hcz]; exact updK_yes hp⟩, by simp only; omega⟩
  · cases hp : (ps 1 == ks[j])
    · simp -implicitDefEqProofs (maxSteps := 500000) (disch := first | decide | omega) only [↓preS, allS, decS, simprocAttr, hg, hp]
      repeat (refine And.intro (by omega) ?_)
      exact ⟨(1 + 1, cz), .inl rfl, ⟨by simp only; omega, hcs, by simp only; rw [updK_no hp]; exact hcz⟩, by simp only; omega⟩
    · have h0 := hcs 1 (by omega)
      simp -implicitDefEqProofs (maxSteps := 500000) (disch := first | decide | omega) only [↓preS, allS, decS, simprocAttr, hg, hp, capS, hfill, fillOk, List.append_nil]
      repeat (refine And.intro (by omega) ?_)
      exact ⟨(1 + 1, updF cz 1 k ⟨x, y⟩), .inl rfl, ⟨by simp only; omega, updF_len hcs (by omega), by simp only; rw [hcz]; exact updK_yes hp⟩, by simp only; omega⟩
  · cases hp : (ps 2 == ks[j])
    · simp -implicitDefEqProofs (maxSteps := 500000) (disch := first | decide | omega) only [↓preS, allS, decS, simprocAttr, hg, hp]
      repeat (refine And.intro (by omega) ?_)
      exact ⟨(2 + 1, cz), .inl rfl, ⟨by simp only; omega, hcs, by simp only; rw [updK_no hp]; exact hcz⟩, by simp only; omega⟩
    · have h0 := hcs 2 (by omega)
      simp -implicitDefEqProofs (maxSteps := 500000) (disch := first | decide | omega) only [↓preS, allS, decS, simprocAttr, hg, hp, capS, hfill, fillOk, List.append_nil]
      repeat (refine And.intro (by omega) ?_)
      exact ⟨(2 + 1, updF cz 2 k ⟨x, y⟩), .inl rfl, ⟨by simp only; omega, updF_len hcs (by omega), by simp only; rw [hcz]; exact updK_yes hp⟩, by simp only; omega⟩
  · cases hp : (ps 3 == ks[j])
    · simp -implicitDefEqProofs (maxSteps := 500000) (disch := first | decide | omega) only [↓preS, allS, decS, simprocAttr, hg, hp]
      repeat (refine And.intro (by omega) ?_)
      exact ⟨(3 + 1, cz), .inl rfl, ⟨by simp only; omega, hcs, by simp only; rw [updK_no hp]; exact hcz⟩, by simp only; omega⟩
    · have h0 := hcs 3 (by omega)
      simp -implicitDefEqProofs (maxSteps := 500000) (disch := first | decide | omega) only [↓preS, allS, decS, simprocAttr, hg, hp, capS, hfill, fillOk, List.append_nil]
      repeat (refine And.intro (by omega) ?_)
      exact ⟨(3 + 1, updF cz 3 k ⟨x, y⟩), .inl rfl, ⟨by simp only; omega, updF_len hcs (by omega), by simp only; rw [hcz]; exact updK_yes hp⟩, by simp only; omega⟩
  · cases hp : (ps 4 == ks[j])
    · simp -implicitDefEqProofs (maxSteps := 500000) (disch := first | decide | omega) only [↓preS, allS, decS, simprocAttr, hg, hp]
      repeat (refine And.intro (by omega) ?_)
      exact ⟨(4 + 1, cz), .inl rfl, ⟨by simp only; omega, hcs, by simp only; rw [updK_no hp]; exact hcz⟩, by simp only; omega⟩
    · have h0 := hcs 4 (by omega)
      simp -implicitDefEqProofs (maxSteps := 500000) (disch := first | decide | omega) only [↓preS, allS, decS, simprocAttr, hg, hp, capS, hfill, fillOk, List.append_nil]
      repeat (refine And.intro (by omega) ?_)
      exact ⟨(4 + 1, updF cz 4 k ⟨x, y⟩), .inl rfl, ⟨by simp only; omega, updF_len hcs (by omega), by simp only; rw [hcz]; exact updK_yes hp⟩, by simp only; omega⟩
  · simp -implicitDefEqProofs (maxSteps := 500000) (disch := first | decide | omega) only [↓preS, allS, decS, simprocAttr]
    exact hQ cz hcs hcz
set_option maxRecDepth 20000 in
set_option maxHeartbeats 16000000 in
theorem mloop7 (ns : List Int) (labs pl ks : List (List UInt8)) (nl r : Nat) (i left x y : Int) (j k : Nat) (hj : j < ks.length) (hk : k < nl) (ps : Nat → List UInt8) (us : Nat → Int) (cs : Nat → List Cap) (hcs : ∀ q, q < 7 → (cs q).length = nl) (Q : AE → St → Prop)
    (hQ : ∀ cs' : Nat → List Cap, (∀ q, q < 7 → (cs' q).length = nl) → cs' = updK ps 7 ks[j] k ⟨x, y⟩ cs → Q (.exit 10) ⟨[(1, .sl false 1 (ns.map I64)), (4, .ref 0 0 0), (6, .ref 1 0 0), (7, .sl false 1 (pl.map AV.str)), (11, .int .i64 i), (12, .sl false 1 (ks.map AV.str)), (13, .int .i64 (k : Int)), (14, .int .i64 left), (15, .int .i64 (j : Int)), (16, .int .i64 x), (17, .int .i64 y), (18, .int .i64 (7 : Int)), (170, .bool false)], [.box [.nils, .nils], .box [.sl false 1 (labs.map AV.str), .own 2 3 0 7], .box ([.str (ps 0), .own 3 2 0 nl, .int .i64 (us 0), .str (ps 1), .own 4 2 0 nl, .int .i64 (us 1), .str (ps 2), .own 5 2 0 nl, .int .i64 (us 2), .str (ps 3), .own 6 2 0 nl, .int .i64 (us 3), .str (ps 4), .own 7 2 0 nl, .int .i64 (us 4), .str (ps 5), .own 8 2 0 nl, .int .i64 (us 5), .str (ps 6), .own 9 2 0 nl, .int .i64 (us 6)] ++ List.replicate r AV.any), .arr 2 ((cs' 0).map CAP), .arr 2 ((cs' 1).map CAP), .arr 2 ((cs' 2).map CAP), .arr 2 ((cs' 3).map CAP), .arr 2 ((cs' 4).map CAP), .arr 2 ((cs' 5).map CAP), .arr 2 ((cs' 6).map CAP)]⟩)
    (s0 : St) (hs0 : Sub 0 (keepK (some [1, 4, 6, 7, 11, 12, 13, 14, 15, 16, 17, 18]) s0) ⟨[(1, .sl false 1 (ns.map I64)), (4, .ref 0 0 0), (6, .ref 1 0 0), (7, .sl false 1 (pl.map AV.str)), (11, .int .i64 i), (12, .sl false 1 (ks.map AV.str)), (13, .int .i64 (k : Int)), (14, .int .i64 left), (15, .int .i64 (j : Int)), (16, .int .i64 x), (17, .int .i64 y), (18, .int .i64 (((0 : Nat) : Int) : Int))], [.box [.nils, .nils], .box [.sl false 1 (labs.map AV.str), .own 2 3 0 7], .box ([.str (ps 0), .own 3 2 0 nl, .int .i64 (us 0), .str (ps 1), .own 4 2 0 nl, .int .i64 (us 1), .str (ps 2), .own 5 2 0 nl, .int .i64 (us 2), .str (ps 3), .own 6 2 0 nl, .int .i64 (us 3), .str (ps 4), .own 7 2 0 nl, .int .i64 (us 4), .str (ps 5), .own 8 2 0 nl, .int .i64 (us 5), .str (ps 6), .own 9 2 0 nl, .int .i64 (us 6)] ++ List.replicate r AV.any), .arr 2 ((cs 0).map CAP), .arr 2 ((cs 1).map CAP), .arr 2 ((cs 2).map CAP), .arr 2 ((cs 3).map CAP), .arr 2 ((cs 4).map CAP), .arr 2 ((cs 5).map CAP), .arr 2 ((cs 6).map CAP)]⟩) : aw Tryd.prog (.loop 0 (some [1, 4, 6, 7, 11, 12, 13, 14, 15, 16, 17, 18]) cc10l0) Q s0 := by
  refine aw_loopS (σ := Nat × (Nat → List Cap)) (fun q => ⟨[(1, .sl false 1 (ns.map I64)), (4, .ref 0 0 0), (6, .ref 1 0 0), (7, .sl false 1 (pl.map AV.str)), (11, .int .i64 i), (12, .sl false 1 (ks.map AV.str)), (13, .int .i64 (k : Int)), (14, .int .i64 left), (15, .int .i64 (j : Int)), (16, .int .i64 x), (17, .int .i64 y), (18, .int .i64 (q.1 : Int))], [.box [.nils, .nils], .box [.sl false 1 (labs.map AV.str), .own 2 3 0 7], .box ([.str (ps 0), .own 3 2 0 nl, .int .i64 (us 0), .str (ps 1), .own 4 2 0 nl, .int .i64 (us 1), .str (ps 2), .own 5 2 0 nl, .int .i64 (us 2), .str (ps 3), .own 6 2 0 nl, .int .i64 (us 3), .str (ps 4), .own 7 2 0 nl, .int .i64 (us 4), .str (ps 5), .own 8 2 0 nl, .int .i64 (us 5), .str (ps 6), .own 9 2 0 nl, .int .i64 (us 6)] ++ List.replicate r AV.any), .arr 2 ((q.2 0).map CAP), .arr 2 ((q.2 1).map CAP), .arr 2 ((q.2 2).map CAP), .arr 2 ((q.2 3).map CAP), .arr 2 ((q.2 4).map CAP), .arr 2 ((q.2 5).map CAP), .arr 2 ((q.2 6).map CAP)]⟩) (fun q => q.1 ≤ 7 ∧ (∀ w, w < 7 → (q.2 w).length = nl) ∧ q.2 = updK ps q.1 ks[j] k ⟨x, y⟩ cs) (fun q => 7 - q.1) (0, cs) hs0 ⟨by simp, hcs, updK_zero.symm⟩ ?_
  rintro ⟨m, cz⟩ ⟨hm, hcs, hcz⟩
  simp only at hm hcs hcz ⊢
  have hg : ks.getD j default = ks[j] := by simp [hj]
  unfold cc10l0
  have hfill : fillAV [.int .i64 0, .int .i64 0] [(0, 1, .int .i64 x), (1, 1, .int .i64 y)] = capC ⟨x, y⟩ := rfl
  rcases (by omega : m = 0 ∨ m = 1 ∨ m = 2 ∨ m = 3 ∨ m = 4 ∨ m = 5 ∨ m = 6 ∨ m = 7) with rfl | rfl | rfl | rfl | rfl | rfl | rfl | rfl
  · cases hp : (ps 0 == ks[j])
    · simp -implicitDefEqProofs (maxSteps := 500000) (disch := first | decide | omega) only [↓preS, allS, decS, simprocAttr, hg, hp]
      repeat (refine And.intro (by omega) ?_)
      exact ⟨(0 + 1, cz), .inl rfl, ⟨by simp only; omega, hcs, by simp only; rw [updK_no hp]; exact hcz⟩, by simp only; omega⟩
    · have h0 := hcs 0 (by omega)
      simp -implicitDefEqProofs (maxSteps := 500000) (disch := first | decide | omega) only [↓preS, allS, decS, simprocAttr, hg, hp, capS, hfill, fillOk, List.append_nil]
      repeat (refine And.intro (by omega) ?_)
      exact ⟨(0 + 1, updF cz 0 k ⟨x, y⟩), .inl rfl, ⟨by simp only; omega, updF_len hcs (by omega), by simp only; rw [hcz]; exact updK_yes hp⟩, by simp only; omega⟩
  · cases hp : (ps 1 == ks[j])
    · simp -implicitDefEqProofs (maxSteps := 500000) (disch := first | decide | omega) only [↓preS, allS, decS, simprocAttr, hg, hp]
      repeat (refine And.intro (by omega) ?_)
      exact ⟨(1 + 1, cz), .inl rfl, ⟨by simp only; omega, hcs, by simp only; rw [updK_no hp]; exact hcz⟩, by simp only; omega⟩
    · have h0 := hcs 1 (by omega)
      simp -implicitDefEqProofs (maxSteps := 500000) (disch := first | decide | omega) only [↓preS, allS, decS, simprocAttr, hg, hp, capS, hfill, fillOk, List.append_nil]
      repeat (refine And.intro (by omega) ?_)
      exact ⟨(1 + 1, updF cz 1 k ⟨x, y⟩), .inl rfl, ⟨by simp only; omega, updF_len hcs (by omega), by simp only; rw [hcz]; exact updK_yes hp⟩, by simp only; omega⟩
  · cases hp : (ps 2 == ks[j])
    · simp -implicitDefEqProofs (maxSteps := 500000) (disch := first | decide | omega) only [↓preS, allS, decS, simprocAttr, hg, hp]
      repeat (refine And.intro (by omega) ?_)
      exact ⟨(2 + 1, cz), .inl rfl, ⟨by simp only; omega, hcs, by simp only; rw [updK_no hp]; exact hcz⟩, by simp only; omega⟩
    · have h0 := hcs 2 (by omega)
      simp -implicitDefEqProofs (maxSteps := 500000) (disch := first | decide | omega) only [↓preS, allS, decS, simprocAttr, hg, hp, capS, hfill, fillOk, List.append_nil]
      repeat (refine And.intro (by omega) ?_)
      exact ⟨(2 + 1, updF cz 2 k ⟨x, y⟩), .inl rfl, ⟨by simp only; omega, updF_len hcs (by omega), by simp only; rw [hcz]; exact updK_yes hp⟩, by simp only; omega⟩
  · cases hp : (ps 3 == ks[j])
    · simp -implicitDefEqProofs (maxSteps := 500000) (disch := first | decide | omega) only [↓preS, allS, decS, simprocAttr, hg, hp]
      repeat (refine And.intro (by omega) ?_)
      exact ⟨(3 + 1, cz), .inl rfl, ⟨by simp only; omega, hcs, by simp only; rw [updK_no hp]; exact hcz⟩, by simp only; omega⟩
    · have h0 := hcs 3 (by omega)
      simp -implicitDefEqProofs (maxSteps := 500000) (disch := first | decide | omega) only [↓preS, allS, decS, simprocAttr, hg, hp, capS, hfill, fillOk, List.append_nil]
      repeat (refine And.intro (by omega) ?_)
      exact ⟨(3 + 1, updF cz 3 k ⟨x, y⟩), .inl rfl, ⟨by simp only; omega, updF_len hcs (by omega), by simp only; rw [hcz]; exact updK_yes hp⟩, by simp only; omega⟩
  · cases hp : (ps 4 == ks[j])
    · simp -implicitDefEqProofs (maxSteps := 500000) (disch := first | decide | omega) only [↓preS, allS, decS, simprocAttr, hg, hp]
      repeat (refine And.intro (by omega) ?_)
      exact ⟨(4 + 1, cz), .inl rfl, ⟨by simp only; omega, hcs, by simp only; rw [updK_no hp]; exact hcz⟩, by simp only; omega⟩
    · have h0 := hcs 4 (by omega)
      simp -implicitDefEqProofs (maxSteps := 500000) (disch := first | decide | omega) only [↓preS, allS, decS, simprocAttr, hg, hp, capS, hfill, fillOk, List.append_nil]
      repeat (refine And.intro (by omega) ?_)
      exact ⟨(4 + 1, updF cz 4 k ⟨x, y⟩), .inl rfl, ⟨by simp only; omega, updF_len hcs (by omega), by simp only; rw [hcz]; exact updK_yes hp⟩, by simp only; omega⟩
  · cases hp : (ps 5 == ks[j])
    · simp -implicitDefEqProofs (maxSteps := 500000) (disch := first | decide | omega) only [↓preS, allS, decS, simprocAttr, hg, hp]
      repeat (refine And.intro (by omega) ?_)
      exact ⟨(5 + 1, cz), .inl rfl, ⟨by simp only; omega, hcs, by simp only; rw [updK_no hp]; exact hcz⟩, by simp only; omega⟩
    · have h0 := hcs 5 (by omega)
      simp -implicitDefEqProofs (maxSteps := 500000) (disch := first | decide | omega) only [↓preS, allS, decS, simprocAttr, hg, hp, capS, hfill, fillOk, List.append_nil]
      repeat (refine And.intro (by omega) ?_)
      exact ⟨(5 + 1, updF cz 5 k ⟨x, y⟩), .inl rfl, ⟨by simp only; omega, updF_len hcs (by omega), by simp only; rw [hcz]; exact updK_yes hp⟩, by simp only; omega⟩
  · cases hp : (ps 6 == ks[j])
    · simp -implicitDefEqProofs (maxSteps := 500000) (disch := first | decide | omega) only [↓preS, allS, decS, simprocAttr, hg, hp]
      repeat (refine And.intro (by omega) ?_)
      exact ⟨(6 + 1, cz), .inl rfl, ⟨by simp only; omega, hcs, by simp only; rw [updK_no hp]; exact hcz⟩, by simp only; omega⟩
    · have h0 := hcs 6 (by omega)
      simp -implicitDefEqProofs (maxSteps := 500000) (disch := first | decide | omega) only [↓preS, allS, decS, simprocAttr, hg, hp, capS, hfill, fillOk, List.append_nil]
      repeat (refine And.intro (by omega) ?_)
      exact ⟨(6 + 1, updF cz 6 k ⟨x, y⟩), .inl rfl, ⟨by simp only; omega, updF_len hcs (by omega), by simp only; rw [hcz]; exact updK_yes hp⟩, by simp only; omega⟩
  · simp -implicitDefEqProofs (maxSteps := 500000) (disch := first | decide | omega) only [↓preS, allS, decS, simprocAttr]
    exact hQ cz hcs hcz
end Go.Proofs.YtcplpegahpmnjaaDoor
