/- What functions of the program compute. No condition. -/
import Derived.Test.YtgpipheibnlkhaaWX
set_option linter.unusedSimpArgs false
set_option linter.unusedVariables false
namespace Go.Proofs.Ytgpipheibnlkhaa
open Go Go.Ab

theorem enc_le39 {g : Inp} (h : wrongI g = 0) : (enc g).length ≤ 2 ^ 39 := by
  obtain ⟨h1, h2, h3, h4, h5, h6⟩ := wrongI_zero h
  unfold enc body
  rw [List.length_append, ints_len]
  have a4 := asks_len g.asks
  by_cases k1 : g.kind = 1
  · have := h3 k1
    have := textLn g.text
    rw [if_pos k1]
    simp only [List.length_cons, List.length_nil]; omega
  by_cases k2 : g.kind = 2
  · rw [if_neg k1, if_pos k2]
    simp only [ints_len, List.length_cons, List.length_nil]; omega
  by_cases k3 : g.kind = 3
  · rw [if_neg k1, if_neg k2, if_pos k3]
    have := h6 k3
    have := intsL_len2 g.ids (by omega)
    simp only [List.length_append, ints_len, List.length_cons, List.length_nil]; omega
  by_cases k4 : g.kind = 4
  · rw [if_neg k1, if_neg k2, if_neg k3, if_pos k4]
    have := h4 k4
    have := textLn g.aQ
    simp only [List.length_append, ints_len, List.length_cons, List.length_nil]; omega
  by_cases k5 : g.kind = 5
  · rw [if_neg k1, if_neg k2, if_neg k3, if_neg k4, if_pos k5]
    have := h5 k5
    have := intsL_len2 g.ids (by omega)
    simp only [List.length_append, ints_len, List.length_cons, List.length_nil]; omega
  rw [if_neg k1, if_neg k2, if_neg k3, if_neg k4, if_neg k5]
  (repeat' split) <;> simp only [ints_len, List.length_cons, List.length_nil] <;> omega
end Go.Proofs.Ytgpipheibnlkhaa
