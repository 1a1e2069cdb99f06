/- What functions of the program compute. No condition. -/
import Derived.Test.YtcplpegahpmnjaaDoorU4
set_option linter.unusedSimpArgs false
set_option linter.unusedVariables false
namespace Go.Proofs.YtcplpegahpmnjaaDoor
open Go Go.Ab
theorem is38_ok (s : List UInt8) (hs : s.length ≤ 2 ^ 40) : PCall Tryd.prog 38 [.str s] (.bool (!nameP s)) := by
  unfold PCall
  refine acall_of is38 (by simp) ?_
  unfold cc38
  simp -implicitDefEqProofs (maxSteps := 500000) (disch := first | decide | omega) only [↓preS, allS, decS, simprocAttr]
  refine acK_of (FCall.of (lent := false) (name_ok s hs) (.refl rfl) rfl (by simp)) ?_
  simp -implicitDefEqProofs (maxSteps := 500000) (disch := first | decide | omega) only [↓preS, allS, decS, simprocAttr]
set_option maxHeartbeats 1000000 in
theorem idx44 (t : Bool) (l : List (List UInt8)) (hl : l.length < 2 ^ 63) (hs : ∀ s ∈ l, s.length ≤ 2 ^ 40) : PCall Tryd.prog 44 [.sl t 1 (l.map AV.str), .fn (.func 38) [] []] (.int .i64 (idxI (fun s => !nameP s) l)) := by
  unfold PCall
  refine acall_of is44 (by simp) ?_
  unfold cc44
  simp -implicitDefEqProofs (maxSteps := 500000) (disch := first | decide | omega) only [↓preS, allS, decS, simprocAttr]
  unfold cc44L0
  simp -implicitDefEqProofs (maxSteps := 500000) (disch := first | decide | omega) only [↓preS, allS, decS, simprocAttr]
  refine aw_loopS (σ := Nat) (fun i => ⟨[(0, .sl t 1 (l.map AV.str)), (1, .fn (.func 38) [] []), (7, .int .i64 (l.length : Int)), (8, .int .i64 (i : Int))], []⟩)
    (fun i => i ≤ l.length ∧ ∀ j, (h : j < i) → (h2 : j < l.length) → (!nameP l[j]) = false) (fun i => l.length - i) 0 (.inl rfl) ⟨by omega, fun j h => by omega⟩ ?_
  rintro i ⟨hii, hn⟩
  unfold cc44l0
  by_cases hil : i < l.length
  · have hg : l.getD i default = l[i] := by simp [hil]
    simp -implicitDefEqProofs (maxSteps := 500000) (disch := first | decide | omega) only [↓preS, allS, decS, simprocAttr]
    refine ⟨by omega, by omega, ?_⟩
    refine acK_of (FCall.of (lent := false) (is38_ok _ (by rw [hg]; exact hs _ (List.getElem_mem hil))) (.refl rfl) rfl (by simp)) ?_
    rw [hg]
    cases hp : (!nameP l[i])
    · simp -implicitDefEqProofs (maxSteps := 500000) (disch := first | decide | omega) only [↓preS, allS, decS, simprocAttr]
      refine ⟨i + 1, .inl rfl, ⟨by omega, fun j h h2 => ?_⟩, by omega⟩
      by_cases hj : j = i
      · subst hj; exact hp
      · exact hn j (by omega) h2
    · simp -implicitDefEqProofs (maxSteps := 500000) (disch := first | decide | omega) only [↓preS, allS, decS, simprocAttr]
      rw [idx_at hil (fun j hj => hn j hj (by omega)) hp]
  · have : i = l.length := by omega
    subst this
    simp -implicitDefEqProofs (maxSteps := 500000) (disch := first | decide | omega) only [↓preS, allS, decS, simprocAttr]
    rw [idx_no fun j hj => hn j hj hj]
theorem idx_any {α : Type} (p : α → Bool) (l : List α) : decide (idxI p l ≥ 0) = l.any p := by
  rcases idx_cases0 p l with ⟨h1, h2⟩ | ⟨i, hi, h1, h2⟩
  · rw [h1, h2]; rfl
  · rw [h1, h2]; simp
theorem any37 (t : Bool) (l : List (List UInt8)) (hl : l.length < 2 ^ 63) (hs : ∀ s ∈ l, s.length ≤ 2 ^ 40) : PCall Tryd.prog 37 [.sl t 1 (l.map AV.str), .fn (.func 38) [] []] (.bool (l.any fun s => !nameP s)) := by
  unfold PCall
  refine acall_of is37 (by simp) ?_
  unfold cc37
  simp -implicitDefEqProofs (maxSteps := 500000) (disch := first | decide | omega) only [↓preS, allS, decS, simprocAttr]
  refine acK_of (FCall.of (lent := false) (idx44 t l hl hs) (.refl rfl) rfl (by simp)) ?_
  simp -implicitDefEqProofs (maxSteps := 500000) (disch := first | decide | omega) only [↓preS, allS, decS, simprocAttr]
  rw [← idx_any]
theorem splitL_mem : ∀ (n : Nat) (s x : List UInt8), s.length ≤ n → x ∈ splitL s → x.length ≤ s.length
  | 0, s, x, h, hx => by
    have : s = [] := List.length_eq_zero_iff.1 (by omega)
    subst this
    rw [splitL_end rfl] at hx
    simp at hx
    simp [hx]
  | n + 1, s, x, h, hx => by
    rcases ib_cases 46 s with ⟨h1, h2⟩ | ⟨i, h1, h2, h3⟩
    · rw [splitL_end h1] at hx
      simp at hx
      simp [hx]
    · rw [splitL_go h2] at hx
      rcases List.mem_cons.1 hx with rfl | hx
      · simp; omega
      · have := splitL_mem n (s.drop (i + 1)) x (by simp; omega) hx
        simp at this
        omega
theorem splitL_ne (s : List UInt8) : splitL s ≠ [] := by
  intro h
  have := splitL_len s.length s (Nat.le_refl _)
  rw [h] at this
  simp at this
def rootS : List UInt8 := [114, 111, 111, 116]
def isPathP (s : List UInt8) : Bool := (splitL s).headD [] == rootS && decide ((splitL s).length ≤ 4) && !(splitL s).any fun x => !nameP x
theorem path_ok (s : List UInt8) (hs : s.length ≤ 2 ^ 40) : PCall Tryd.prog 33 [.str s] (.bool (isPathP s)) := by
  unfold PCall
  refine acall_of is33 (by simp) ?_
  unfold cc33
  simp -implicitDefEqProofs (maxSteps := 500000) (disch := first | decide | omega) only [↓preS, allS, decS, simprocAttr]
  refine acK_of (FCall.of (lent := false) (split36 s hs) (.refl rfl) rfl (by simp)) ?_
  have hlen := splitL_len s.length s (Nat.le_refl _)
  have hmem := fun x hx => splitL_mem s.length s x (Nat.le_refl _) hx
  have hcnt : s.count 46 ≤ s.length := List.count_le_length
  have hne := splitL_ne s
  unfold isPathP
  generalize splitL s = l at *
  match l, hne with
  | x :: l, _ =>
  have hc := any37 false (x :: l) (by omega) fun y hy => Nat.le_trans (hmem y hy) hs
  generalize (x :: l).any (fun s => !nameP s) = b at hc
  have hh : (x :: l).headD [] = x := rfl
  rw [hh]
  cases hx : (x == rootS) with
  | false =>
    have hx2 : (x == [114, 111, 111, 116]) = false := hx
    simp -implicitDefEqProofs (maxSteps := 500000) (disch := first | decide | omega) only [↓preS, allS, decS, simprocAttr, List.map_cons, List.getD_cons_zero, hx2]
    refine ⟨by simp, ?_⟩
    rfl
  | true =>
    have hx2 : (x == [114, 111, 111, 116]) = true := hx
    by_cases hl : l.length ≤ 3
    · have hl2 : decide ((x :: l).length ≤ 4) = true := by simp; omega
      rw [hl2]
      have hl3 : ((List.map AV.str (x :: l)).length : Int) ≤ 4 := by simp; omega
      simp -implicitDefEqProofs (maxSteps := 500000) (disch := first | decide | omega) only [↓preS, allS, decS, simprocAttr, List.map_cons, List.getD_cons_zero, hx2]
      refine ⟨by simp, ?_⟩
      refine acK_of (FCall.of (lent := false) (hc) (.refl rfl) rfl (by simp)) ?_
      simp -implicitDefEqProofs (maxSteps := 500000) (disch := first | decide | omega) only [↓preS, allS, decS, simprocAttr]
    · have hl2 : decide ((x :: l).length ≤ 4) = false := by simp; omega
      rw [hl2]
      have hl3 : ¬ ((List.map AV.str (x :: l)).length : Int) ≤ 4 := by simp; omega
      simp -implicitDefEqProofs (maxSteps := 500000) (disch := first | decide | omega) only [↓preS, allS, decS, simprocAttr, List.map_cons, List.getD_cons_zero, hx2]
      refine ⟨by simp, ?_⟩
      rfl
def badC (c : Cap) : Bool := decide (c.least < 0) || decide (c.most > 10000) || decide (c.least > c.most)
theorem is40_ok (c : Cap) : PCall Tryd.prog 40 [CAP c] (.bool (badC c)) := by
  unfold PCall
  refine acall_of is40 (by simp) ?_
  unfold cc40 badC
  by_cases h1 : c.least < 0
  · simp -implicitDefEqProofs (maxSteps := 500000) (disch := first | decide | omega) only [↓preS, allS, decS, simprocAttr, capS]
    simp [h1]
  · by_cases h2 : c.most > 10000
    · simp -implicitDefEqProofs (maxSteps := 500000) (disch := first | decide | omega) only [↓preS, allS, decS, simprocAttr, capS]
      simp [h2]
    · simp -implicitDefEqProofs (maxSteps := 500000) (disch := first | decide | omega) only [↓preS, allS, decS, simprocAttr, capS]
      simp [h1, h2]
set_option maxHeartbeats 1000000 in
theorem idx45 (t : Bool) (l : List Cap) (hl : l.length < 2 ^ 63) : PCall Tryd.prog 45 [.sl t 2 (l.map CAP), .fn (.func 40) [] []] (.int .i64 (idxI badC l)) := by
  unfold PCall
  refine acall_of is45 (by simp) ?_
  unfold cc45
  simp -implicitDefEqProofs (maxSteps := 500000) (disch := first | decide | omega) only [↓preS, allS, decS, simprocAttr]
  unfold cc45L0
  simp -implicitDefEqProofs (maxSteps := 500000) (disch := first | decide | omega) only [↓preS, allS, decS, simprocAttr]
  refine aw_loopS (σ := Nat) (fun i => ⟨[(0, .sl t 2 (l.map CAP)), (1, .fn (.func 40) [] []), (7, .int .i64 (l.length : Int)), (8, .int .i64 (i : Int))], []⟩)
    (fun i => i ≤ l.length ∧ ∀ j, (h : j < i) → (h2 : j < l.length) → badC l[j] = false) (fun i => l.length - i) 0 (.inl rfl) ⟨by omega, fun j h => by omega⟩ ?_
  rintro i ⟨hii, hn⟩
  unfold cc45l0
  by_cases hil : i < l.length
  · have hg : l.getD i default = l[i] := by simp [hil]
    simp -implicitDefEqProofs (maxSteps := 500000) (disch := first | decide | omega) only [↓preS, allS, decS, simprocAttr, capS]
    refine ⟨by omega, by omega, ?_⟩
    refine acK_of (FCall.of (lent := false) (is40_ok _) (.refl rfl) rfl (by simp)) ?_
    rw [hg]
    cases hp : badC l[i]
    · simp -implicitDefEqProofs (maxSteps := 500000) (disch := first | decide | omega) only [↓preS, allS, decS, simprocAttr]
      refine ⟨i + 1, .inl rfl, ⟨by omega, fun j h h2 => ?_⟩, by omega⟩
      by_cases hj : j = i
      · subst hj; exact hp
      · exact hn j (by omega) h2
    · simp -implicitDefEqProofs (maxSteps := 500000) (disch := first | decide | omega) only [↓preS, allS, decS, simprocAttr]
      rw [idx_at hil (fun j hj => hn j hj (by omega)) hp]
  · have : i = l.length := by omega
    subst this
    simp -implicitDefEqProofs (maxSteps := 500000) (disch := first | decide | omega) only [↓preS, allS, decS, simprocAttr]
    rw [idx_no fun j hj => hn j hj hj]
theorem any39 (t : Bool) (l : List Cap) (hl : l.length < 2 ^ 63) : PCall Tryd.prog 39 [.sl t 2 (l.map CAP), .fn (.func 40) [] []] (.bool (l.any badC)) := by
  unfold PCall
  refine acall_of is39 (by simp) ?_
  unfold cc39
  simp -implicitDefEqProofs (maxSteps := 500000) (disch := first | decide | omega) only [↓preS, allS, decS, simprocAttr]
  refine acK_of (FCall.of (lent := false) (idx45 t l hl) (.refl rfl) rfl (by simp)) ?_
  simp -implicitDefEqProofs (maxSteps := 500000) (disch := first | decide | omega) only [↓preS, allS, decS, simprocAttr]
  rw [← idx_any]
def capsP (l : List Cap) : Bool := !l.any badC
theorem caps_ok (t : Bool) (l : List Cap) (hl : l.length < 2 ^ 63) : PCall Tryd.prog 34 [.sl t 2 (l.map CAP)] (.bool (capsP l)) := by
  unfold PCall
  refine acall_of is34 (by simp) ?_
  unfold cc34
  simp -implicitDefEqProofs (maxSteps := 500000) (disch := first | decide | omega) only [↓preS, allS, decS, simprocAttr]
  refine acK_of (FCall.of (lent := false) (any39 t l hl) (.refl rfl) rfl (by simp)) ?_
  simp -implicitDefEqProofs (maxSteps := 500000) (disch := first | decide | omega) only [↓preS, allS, decS, simprocAttr]
  rfl
end Go.Proofs.YtcplpegahpmnjaaDoor
