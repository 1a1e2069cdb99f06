/- What functions of the program compute. No condition. -/
import Derived.Test.YtcplpegahpmnjaaDoorU11
set_option linter.unusedSimpArgs false
set_option linter.unusedVariables false
namespace Go.Proofs.YtcplpegahpmnjaaDoor
open Go Go.Ab
def splitN : Nat → List UInt8 → List (List UInt8)
  | 0, s => [s]
  | n + 1, s => if Lib.indexByte s 46 < 0 then [s] else s.take (Lib.indexByte s 46).toNat :: splitN n (s.drop ((Lib.indexByte s 46).toNat + 1))
theorem splitN_eq : ∀ (n : Nat) (s : List UInt8), s.length ≤ n → splitL s = splitN n s
  | 0, s, h => by
    have : s = [] := List.length_eq_zero_iff.1 (by omega)
    subst this
    rw [splitL_end rfl]
    rfl
  | n + 1, s, h => by
    rcases ib_cases 46 s with ⟨h1, h2⟩ | ⟨i, h1, h2, h3⟩
    · rw [splitL_end h1, splitN, h2, if_pos (by decide)]
    · rw [splitL_go h2, splitN, h2, if_neg (by omega), splitN_eq n _ (by simp; omega)]
      rfl
def isPathN (s : List UInt8) : Bool := (splitN s.length s).headD [] == rootS && decide ((splitN s.length s).length ≤ 4) && !(splitN s.length s).any fun x => !nameP x
theorem isPathN_eq (s : List UInt8) : isPathP s = isPathN s := by
  unfold isPathP isPathN
  rw [splitN_eq s.length s (Nat.le_refl _)]
end Go.Proofs.YtcplpegahpmnjaaDoor
