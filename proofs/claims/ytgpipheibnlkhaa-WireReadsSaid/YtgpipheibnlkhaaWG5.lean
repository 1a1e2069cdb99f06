/- What functions of the program compute. No condition. -/
import Derived.Test.YtgpipheibnlkhaaWG4
import Derived.Test.YtgpipheibnlkhaaWY
import Derived.Test.YtgpipheibnlkhaaR7L10
set_option linter.unusedSimpArgs false
set_option linter.unusedVariables false
namespace Go.Proofs.Ytgpipheibnlkhaa
open Go Go.Ab

structure Fine (x : Inp) : Prop where
  len : x.Len
  rg : x.Rg
theorem Fine.good {x : Inp} (h : Fine x) : Fine (goodI x) := by
  obtain ⟨⟨l1, l2, l3, l4⟩, hr⟩ := h
  refine ⟨⟨?_, ?_, ?_, ?_⟩, hr.good⟩ <;> simp only [goodI, List.length_take] <;> omega
theorem eqAsks_self (l : List Ask) : eqAsks l l = true := by
  unfold eqAsks
  rw [Bool.and_eq_true, beq_iff_eq, List.all_eq_true]
  exact ⟨rfl, fun i hi => by simp [eqAsk]⟩
theorem sameI_self (x : Inp) : sameI x x = true := by
  simp only [sameI, sameB, beq_self_eq_true, Bool.true_and, eqAsks_self]
  (repeat' split) <;> rfl
end Go.Proofs.Ytgpipheibnlkhaa
