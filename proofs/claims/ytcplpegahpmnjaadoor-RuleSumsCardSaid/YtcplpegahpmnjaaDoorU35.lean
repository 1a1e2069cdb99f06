/- What functions of the program compute. No condition. -/
import Derived.Test.YtcplpegahpmnjaaDoorU21
set_option linter.unusedSimpArgs false
set_option linter.unusedVariables false
namespace Go.Proofs.YtcplpegahpmnjaaDoor
open Go Go.Ab
theorem nd_inj {α : Type} {l : List α} (h : l.Nodup) {i j : Nat} (hi : i < l.length) (hj : j < l.length) (he : l[i] = l[j]) : i = j := by
  have hp := List.pairwise_iff_getElem.1 h
  rcases Nat.lt_trichotomy i j with h1 | h1 | h1
  · exact absurd he (hp i j hi hj h1)
  · exact h1
  · exact absurd he.symm (hp j i hj hi h1)
def lv (cs : Nat → List Cap) (w k : Nat) : Cap := (cs w).getD k default
def sumN (L : Nat → Int) : Nat → Int
  | 0 => 0
  | j + 1 => sumN L j + L j
theorem sumN_congr {L L' : Nat → Int} : ∀ j, (∀ t, t < j → L t = L' t) → sumN L j = sumN L' j
  | 0, _ => rfl
  | j + 1, h => by
    unfold sumN
    rw [sumN_congr j fun t ht => h t (by omega), h j (by omega)]
theorem updK_len {ps : Nat → List UInt8} {n k : Nat} {p : List UInt8} {v : Cap} {cs : Nat → List Cap} (w : Nat) : (updK ps n p k v cs w).length = (cs w).length := by
  unfold updK
  split
  · rw [List.length_set]
  · rfl
theorem lv_updK_in {ps : Nat → List UInt8} {n k w : Nat} {p : List UInt8} {v : Cap} {cs : Nat → List Cap} (hw : w < n) (hp : ps w = p) (hk : k < (cs w).length) : lv (updK ps n p k v cs) w k = v := by
  unfold lv updK
  rw [if_pos ⟨hw, by simp [hp]⟩, List.getD_eq_getElem?_getD, List.getElem?_set_self hk]
  rfl
theorem lv_updK_out {ps : Nat → List UInt8} {n k w : Nat} {p : List UInt8} {v : Cap} {cs : Nat → List Cap} (i : Nat) (h : ps w ≠ p ∨ i ≠ k) : lv (updK ps n p k v cs) w i = lv cs w i := by
  unfold lv updK
  by_cases hc : w < n ∧ (ps w == p) = true
  · rw [if_pos hc]
    rcases h with h | h
    · exact absurd (by simpa using hc.2) h
    · rw [List.getD_eq_getElem?_getD, List.getD_eq_getElem?_getD, List.getElem?_set_ne (by omega)]
  · rw [if_neg hc]
structure ShF (ps : Nat → List UInt8) (n : Nat) (ks : List (List UInt8)) (k : Nat) (cs0 : Nat → List Cap) (j : Nat) (left : Int) (cs : Nat → List Cap) : Prop where
  le : j ≤ ks.length
  len : ∀ w, (cs w).length = (cs0 w).length
  oth : ∀ w i, i ≠ k → lv cs w i = lv cs0 w i
  out : ∀ w, (∀ t, (h : t < j) → (h2 : t < ks.length) → ps w ≠ ks[t]) → lv cs w k = lv cs0 w k
  ins : ∃ L M : Nat → Int, (∀ t, t < j → 0 ≤ L t ∧ L t ≤ M t ∧ M t ≤ 10000) ∧ left = 10000 - sumN L j ∧ (0 < j → j = ks.length → left = 0) ∧ ∀ t, t < j → (h : t < ks.length) → ∀ w, w < n → ps w = ks[t] → lv cs w k = ⟨L t, M t⟩
theorem Sh.facts {ps : Nat → List UInt8} {n : Nat} {ks : List (List UInt8)} {k : Nat} {cs0 : Nat → List Cap} (hnd : ks.Nodup) (hk : ∀ w, w < n → k < (cs0 w).length) {j : Nat} {left : Int} {cs : Nat → List Cap} (h : Sh ps n ks k cs0 j left cs) : ShF ps n ks k cs0 j left cs := by
  induction h with
  | zero => exact ⟨Nat.zero_le _, fun _ => rfl, fun _ _ _ => rfl, fun _ _ => rfl, fun _ => 0, fun _ => 0, fun t h => by omega, by simp [sumN], fun h => by omega, fun t h => by omega⟩
  | @step j left x y cs hj h0 hx0 hx1 hy0 hy1 hl ih =>
    obtain ⟨h1, h2, h3, h4, L, M, h5, h6, h7, h8⟩ := ih
    refine ⟨by omega, fun w => by rw [updK_len, h2], fun w i hi => by rw [lv_updK_out i (.inr hi), h3 w i hi], fun w hw => ?_, fun t => if t = j then x else L t, fun t => if t = j then y else M t, fun t ht => ?_, ?_, fun _ he => ?_, fun t ht htl w hw hp => ?_⟩
    · rw [lv_updK_out k (.inl (hw j (by omega) hj)), h4 w fun t ht ht2 => hw t (by omega) ht2]
    · by_cases htj : t = j
      · simp only [htj, if_true]; omega
      · simp only [if_neg htj]; exact h5 t (by omega)
    · unfold sumN
      rw [sumN_congr (L' := L) j fun t ht => if_neg (by omega)]
      simp only [if_true]
      omega
    · have := hl (by omega)
      omega
    · by_cases htj : t = j
      · subst htj
        simp only [if_true]
        rw [lv_updK_in hw hp (by rw [h2]; exact hk w hw)]
      · simp only [if_neg htj]
        rw [lv_updK_out k (.inl ?_), h8 t (by omega) htl w hw hp]
        rw [hp]
        intro he
        exact htj (nd_inj hnd _ _ he.symm |>.symm)
def Whole (ps : Nat → List UInt8) (n : Nat) (ks : List (List UInt8)) (k : Nat) (cs : Nat → List Cap) : Prop :=
  ∃ L M : Nat → Int, (∀ t, t < ks.length → 0 ≤ L t ∧ L t ≤ M t ∧ M t ≤ 10000) ∧ sumN L ks.length = 10000 ∧ ∀ t, (h : t < ks.length) → ∀ w, w < n → ps w = ks[t] → lv cs w k = ⟨L t, M t⟩
theorem Whole.congr {ps : Nat → List UInt8} {n : Nat} {ks : List (List UInt8)} {k : Nat} {cs cs' : Nat → List Cap} (h : Whole ps n ks k cs) (he : ∀ w, w < n → ps w ∈ ks → lv cs' w k = lv cs w k) : Whole ps n ks k cs' := by
  obtain ⟨L, M, h1, h2, h3⟩ := h
  exact ⟨L, M, h1, h2, fun t ht w hw hp => by rw [he w hw (by rw [hp]; exact List.getElem_mem _)]; exact h3 t ht w hw hp⟩
structure KlF (ps : Nat → List UInt8) (n : Nat) (ks : List (List UInt8)) (cs0 : Nat → List Cap) (m : Nat) (cs : Nat → List Cap) : Prop where
  len : ∀ w, (cs w).length = (cs0 w).length
  out : ∀ w, ps w ∉ ks → ∀ i, lv cs w i = lv cs0 w i
  ins : ks ≠ [] → ∀ k, k < m → Whole ps n ks k cs
theorem Kl.facts {ps : Nat → List UInt8} {n nl : Nat} {ks : List (List UInt8)} {cs0 : Nat → List Cap} (hnd : ks.Nodup) (hk : ∀ w, w < n → nl ≤ (cs0 w).length) {m : Nat} {cs : Nat → List Cap} (h : Kl ps n ks nl cs0 m cs) : KlF ps n ks cs0 m cs := by
  induction h with
  | zero => exact ⟨fun _ => rfl, fun _ _ _ => rfl, fun _ k h => by omega⟩
  | @step k lf cs cs' hkn h0 hs ih =>
    obtain ⟨h1, h2, h3⟩ := ih
    obtain ⟨g1, g2, g3, g4, L, M, g5, g6, g7, g8⟩ := hs.facts hnd fun w hw => by rw [h1]; have := hk w hw; omega
    refine ⟨fun w => by rw [g2, h1], fun w hw i => ?_, fun hne k2 hk2 => ?_⟩
    · rw [← h2 w hw i]
      by_cases hi : i = k
      · subst hi
        exact g4 w fun t ht ht2 he => hw (by rw [he]; exact List.getElem_mem _)
      · exact g3 w i hi
    · by_cases hkk : k2 = k
      · subst hkk
        have hpos : 0 < ks.length := List.length_pos_iff.2 hne
        have := g7 hpos rfl
        exact ⟨L, M, g5, by omega, fun t ht w hw hp => g8 t ht ht w hw hp⟩
      · exact (h3 hne k2 (by omega)).congr fun w hw _ => g3 w k2 hkk
structure IlF (ps : Nat → List UInt8) (n : Nat) (kf : Nat → List (List UInt8)) (nl : Nat) (cs0 : Nat → List Cap) (m : Nat) (cs : Nat → List Cap) : Prop where
  len : ∀ w, (cs w).length = (cs0 w).length
  out : ∀ w, (∀ i, i < m → ps w ∉ kf i) → ∀ k, lv cs w k = lv cs0 w k
  ins : ∀ i, i < m → kf i ≠ [] → ∀ k, k < nl → Whole ps n (kf i) k cs
theorem Il.facts {ps : Nat → List UInt8} {n nl N : Nat} {kf : Nat → List (List UInt8)} {cs0 : Nat → List Cap} (hnd : ∀ i, i < N → (kf i).Nodup) (hdis : ∀ i, i < N → ∀ j, j < N → i ≠ j → ∀ x ∈ kf i, x ∉ kf j) (hk : ∀ w, w < n → nl ≤ (cs0 w).length) {m : Nat} {cs : Nat → List Cap} (h : Il ps n kf nl cs0 m cs) (hm : m ≤ N) : IlF ps n kf nl cs0 m cs := by
  induction h with
  | zero => exact ⟨fun _ => rfl, fun _ _ _ => rfl, fun i h => by omega⟩
  | @step i cs cs' h0 hs ih =>
    obtain ⟨h1, h2, h3⟩ := ih (by omega)
    obtain ⟨g1, g2, g3⟩ := hs.facts (hnd i (by omega)) fun w hw => by rw [h1]; exact hk w hw
    refine ⟨fun w => by rw [g1, h1], fun w hw k => by rw [g2 w (hw i (by omega)), h2 w fun j hj => hw j (by omega)], fun j hj hne k hkn => ?_⟩
    by_cases hji : j = i
    · subst hji
      exact g3 hne k hkn
    · exact (h3 j (by omega) hne k hkn).congr fun w hw hmem => g2 w (hdis j (by omega) i (by omega) hji _ hmem) k
end Go.Proofs.YtcplpegahpmnjaaDoor
