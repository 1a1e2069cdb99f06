/- What functions of the program compute. No condition. -/
import Derived.Test.YtgpipheibnlkhaaWX
set_option linter.unusedSimpArgs false
set_option linter.unusedVariables false
namespace Go.Proofs.Ytgpipheibnlkhaa
open Go Go.Ab

theorem restr_kind (g : Inp) : (restr g).kind = g.kind := by unfold restr; (repeat' split) <;> rfl
theorem restr_text (g : Inp) : (restr g).text.length ≤ g.text.length := by unfold restr; (repeat' split) <;> simp [zInp]
theorem restr_aQ (g : Inp) : (restr g).aQ.length ≤ g.aQ.length := by unfold restr; (repeat' split) <;> simp [zInp]
theorem restr_asks (g : Inp) : (restr g).asks.length ≤ g.asks.length := by unfold restr; (repeat' split) <;> simp [zInp]
theorem restr_ids (g : Inp) : (restr g).ids.length ≤ g.ids.length := by unfold restr; (repeat' split) <;> simp [zInp]

theorem restr_wrong {g : Inp} (h : wrongI g = 0) : wrongI (restr g) = 0 := by
  obtain ⟨h1, h2, h3, h4, h5, h6⟩ := wrongI_zero h
  have a1 := restr_kind g
  have a2 := restr_text g
  have a3 := restr_aQ g
  have a4 := restr_asks g
  have a5 := restr_ids g
  unfold wrongI
  rw [a1, if_neg (by omega), if_neg (by omega), if_neg (by omega)]

theorem enc_cons (g : Inp) (r : List UInt8) : enc g ++ r = be 8 g.kind ++ (body g ++ r) := by
  unfold enc
  rw [List.append_assoc, ints_cons, ints_nil]

theorem pars_w {g : Inp} (h : wrongI g = 0) (hr : g.Rg) (r : List UInt8) : pars ⟨enc g ++ r, 0⟩ = (restr g, ⟨r, 0⟩) := by
  obtain ⟨h1, h2, h3, h4, h5, h6⟩ := wrongI_zero h
  unfold pars
  rw [enc_cons, intR_w _ _ ⟨by omega, by omega⟩]
  simp only
  rw [if_neg (by omega), parsB_w g hr (fun k => by have := h3 k; omega) (fun k => by have := h4 k; omega) (fun k => (h5 k).1) (fun k => by rcases k with k | k; exact Nat.le_trans (h6 k) (by omega); exact Nat.le_trans (h5 k).2 (by omega))]

theorem parse_w {g : Inp} (h : wrongI g = 0) (hr : g.Rg) : parse (enc g) = (restr g, 0) := by
  unfold parse
  have := pars_w h hr []
  rw [List.append_nil] at this
  rw [this]
  unfold done endE
  simp [restr_wrong h]

theorem enc_le39 {g : Inp} (h : wrongI g = 0) : (enc g).length ≤ 2 ^ 39 := by
  obtain ⟨h1, h2, h3, h4, h5, h6⟩ := wrongI_zero h
  unfold enc body
  rw [List.length_append, ints_len]
  have a4 := asks_len g.asks
  by_cases k1 : g.kind = 1
  · have := h3 k1
    have := textLn g.text
    rw [if_pos k1]
    simp only [List.length_cons, List.length_nil]; omega
  by_cases k2 : g.kind = 2
  · rw [if_neg k1, if_pos k2]
    simp only [ints_len, List.length_cons, List.length_nil]; omega
  by_cases k3 : g.kind = 3
  · rw [if_neg k1, if_neg k2, if_pos k3]
    have := h6 k3
    have := intsL_len2 g.ids (by omega)
    simp only [List.length_append, ints_len, List.length_cons, List.length_nil]; omega
  by_cases k4 : g.kind = 4
  · rw [if_neg k1, if_neg k2, if_neg k3, if_pos k4]
    have := h4 k4
    have := textLn g.aQ
    simp only [List.length_append, ints_len, List.length_cons, List.length_nil]; omega
  by_cases k5 : g.kind = 5
  · rw [if_neg k1, if_neg k2, if_neg k3, if_neg k4, if_pos k5]
    have := h5 k5
    have := intsL_len2 g.ids (by omega)
    simp only [List.length_append, ints_len, List.length_cons, List.length_nil]; omega
  rw [if_neg k1, if_neg k2, if_neg k3, if_neg k4, if_neg k5]
  (repeat' split) <;> simp only [ints_len, List.length_cons, List.length_nil] <;> omega
theorem enc_le {g : Inp} (h : wrongI g = 0) : (enc g).length ≤ 2 ^ 40 := Nat.le_trans (enc_le39 h) (by omega)
end Go.Proofs.Ytgpipheibnlkhaa
