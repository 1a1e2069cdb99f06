/- What functions of the program compute. No condition. -/
import Derived.Test.YtcplpegahpmnjaaDoorU32
import Derived.Test.YtcplpegahpmnjaaDoorR5cCode
set_option linter.unusedSimpArgs false
set_option linter.unusedVariables false
namespace Go.Proofs.YtcplpegahpmnjaaDoor
open Go Go.Ab
def kidsXS (p : List UInt8) (pl : List (List UInt8)) : List (List UInt8) := pl.filter fun s => p != [] && (aboveP s).1 == p
theorem kidsXS_eq {t : List (List UInt8)} (h : kidsS [] t = []) (p : List UInt8) : kidsXS p t = kidsS p t := by
  by_cases hp : p = []
  · subst hp
    rw [h]
    unfold kidsXS
    simp
  · unfold kidsXS kidsS
    refine List.filter_congr fun s _ => ?_
    have h1 : (p != []) = true := by simp [hp]
    rw [h1, Bool.true_and]
    cases h2 : (aboveP s).2 with
    | true => rw [Bool.true_and]
    | false =>
      rw [Bool.false_and, beq_eq_false_iff_ne]
      intro h3
      unfold aboveP at h2 h3
      by_cases h4 : dotL s < 0
      · rw [if_pos h4] at h3
        exact hp h3.symm
      · rw [if_neg h4] at h2
        cases h2
end Go.Proofs.YtcplpegahpmnjaaDoor
