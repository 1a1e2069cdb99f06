/- What functions of the program compute. No condition. -/
import Derived.Test.YtcplpegahpmnjaaDoorU31
set_option linter.unusedSimpArgs false
set_option linter.unusedVariables false
namespace Go.Proofs.YtcplpegahpmnjaaDoor
open Go Go.Ab
def kidsGood (pl : List (List UInt8)) : Bool := (pl.all fun p => let ks := kidsS p pl
  (ks.all fun k => decide (2 ≤ (upN k.length k).length) && ((upN k.length k).getD 1 [] == p)) && (List.range ks.length).all fun i => i == 0 || Op.bytesLess (ks.getD (i - 1) []) (ks.getD i [])) &&
  (pl.map fun p => (kidsS p pl).length).sum == pl.length - 1 && !pl.any (· == [110, 111, 98, 111, 100, 121]) && (kidsS [] pl).isEmpty
def kn (pl : List (List UInt8)) (i : Nat) : Nat := ((pl.take i).map fun p => (kidsS p pl).length).sum
theorem kids_of {t : List (List UInt8)} (h : kidsGood t = true) : (∀ p ∈ t, (∀ (i : Nat) (hi : i < (kidsS p t).length), 2 ≤ (upL (kidsS p t)[i]).length ∧ (upL (kidsS p t)[i]).getD 1 default = p ∧ (0 < i → Op.bytesLess ((kidsS p t).getD (i - 1) default) (kidsS p t)[i] = true))) ∧ kn t t.length = t.length - 1 ∧ t.any (· == [110, 111, 98, 111, 100, 121]) = false ∧ kidsS [] t = [] := by
  unfold kidsGood at h
  simp only [Bool.and_eq_true, Bool.not_eq_true'] at h
  obtain ⟨⟨⟨h1, h2⟩, h3⟩, h4⟩ := h
  refine ⟨fun p hp i hi => ?_, ?_, h3, List.isEmpty_iff.1 h4⟩
  · have h1 := List.all_eq_true.1 h1 p hp
    simp only [Bool.and_eq_true] at h1
    have h5 := List.all_eq_true.1 h1.1 (kidsS p t)[i] (List.getElem_mem hi)
    simp only [Bool.and_eq_true, decide_eq_true_eq, beq_iff_eq] at h5
    rw [← upN_eq _ _ (Nat.le_refl _)] at h5
    refine ⟨h5.1, h5.2, fun h0 => ?_⟩
    have h6 := List.all_eq_true.1 h1.2 i (List.mem_range.2 hi)
    have e : (kidsS p t).getD i [] = (kidsS p t)[i] := by simp [hi]
    rw [e] at h6
    rcases Bool.or_eq_true_iff.1 h6 with h7 | h7
    · exact absurd (by simpa using h7) (show ¬ i = 0 by omega)
    · exact h7
  · unfold kn
    rw [List.take_length]
    simpa using h2
theorem trees_kids : ∀ t ∈ trees, kidsGood t = true := by decide +kernel
end Go.Proofs.YtcplpegahpmnjaaDoor
