/- What functions of the program compute. No condition. -/
import Derived.Test.YtgpipheibnlkhaaWM
set_option linter.unusedSimpArgs false
set_option linter.unusedVariables false
namespace Go.Proofs.Ytgpipheibnlkhaa
open Go Go.Ab

theorem eq_get {α : Type} [Inhabited α] : ∀ (a b : List α), a.length = b.length → (∀ i, i < a.length → a.getD i default = b.getD i default) → a = b
  | [], [], _, _ => rfl
  | x :: a, y :: b, hl, h => by
    have h0 := h 0 (by simp)
    simp only [List.getD_cons_zero] at h0
    rw [h0, eq_get a b (by simpa using hl) fun i hi => by simpa using h (i + 1) (by simpa using hi)]
  | [], y :: b, hl, _ => by simp at hl
  | x :: a, [], hl, _ => by simp at hl

def eqAsk (a b : Ask) : Bool := a.prio == b.prio && (a.label == b.label && (a.mem == b.mem && (a.cores == b.cores && (a.count == b.count && (a.node == b.node && a.rack == b.rack)))))

def eqAsks (a b : List Ask) : Bool := a.length == b.length && (List.range a.length).all fun i => eqAsk (a.getD i default) (b.getD i default)

end Go.Proofs.Ytgpipheibnlkhaa
