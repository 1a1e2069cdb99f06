/- What functions of the program compute. No condition. -/
import Derived.Test.YtgpipheibnlkhaaWL
import Derived.Test.YtgpipheibnlkhaaWR
set_option linter.unusedSimpArgs false
set_option linter.unusedVariables false
namespace Go.Proofs.Ytgpipheibnlkhaa
open Go Go.Ab

structure Good (g : Inp) : Prop where
  k1 : 1 ≤ g.kind
  k2 : g.kind ≤ 11
  text : g.text.length ≤ 300
  aQ : g.aQ.length ≤ 60
  asks : g.asks.length ≤ 20
  ids : g.ids.length ≤ 100

theorem goodI_good (x : Inp) : Good (goodI x) := by
  have w := win_rng x.kind 11 (by omega)
  refine ⟨?_, ?_, ?_, ?_, ?_, ?_⟩ <;> simp only [goodI, List.length_take] <;> omega

theorem Good.wrong {g : Inp} (h : Good g) : wrongI g = 0 := by
  obtain ⟨h1, h2, h3, h4, h5, h6⟩ := h
  unfold wrongI
  rw [if_neg (by omega), if_neg (by omega), if_neg (by omega)]

theorem asks_len (l : List Ask) : (l.flatMap fun a => ints [a.prio, a.label, a.mem, a.cores, a.count, a.node, a.rack]).length = 56 * l.length := by
  induction l with
  | nil => rfl
  | cons a l ih => rw [List.flatMap_cons, List.length_append, ints_len, ih, List.length_cons]; simp; omega
theorem intsL_len2 (s : List Int) (h : s.length ≤ 65535) : (intsL s).length = 2 + 8 * s.length := by
  unfold intsL
  rw [List.take_of_length_le h, List.length_append, be_len, flat8_len]

end Go.Proofs.Ytgpipheibnlkhaa
