/- What functions of the program compute. No condition. -/
import Derived.Test.YtgpipheibnlkhaaWBb
set_option linter.unusedSimpArgs false
set_option linter.unusedVariables false
namespace Go.Proofs.Ytgpipheibnlkhaa
open Go Go.Ab

theorem intR_le (s : RS) : (intR s).2.b.length ≤ s.b.length := by
  unfold intR
  split
  · split <;> simp
  · exact Nat.le_refl _
theorem textR_le (s : RS) : (textR s).2.b.length ≤ s.b.length := by
  unfold textR
  split
  · split
    · split <;> simp <;> omega
    · exact Nat.le_refl _
  · exact Nat.le_refl _
theorem intsR_le (s : RS) : (intsR s).2.b.length ≤ s.b.length := by
  unfold intsR
  split
  · split
    · have := goI_len (num (s.b.take 2)).toNat (s.b.drop 2)
      split <;> rename_i heq <;> rw [heq] at this <;> simp only [List.length_drop] at this ⊢ <;> omega
    · exact Nat.le_refl _
  · exact Nat.le_refl _

theorem goI_size : ∀ (n : Nat) (l : List UInt8) (xs : List Int) (r : List UInt8), goI n l = (some xs, r) → xs.length = n
  | 0, l, xs, r, h => by
    simp only [goI, Prod.mk.injEq, Option.some.injEq] at h
    rw [← h.1]
    rfl
  | n + 1, l, xs, r, h => by
    unfold goI at h
    split at h
    · split at h
      · rename_i ys q heq
        simp only [Prod.mk.injEq, Option.some.injEq] at h
        rw [← h.1, List.length_cons, goI_size n _ _ _ heq]
      · simp at h
    · simp at h
theorem intsR_len (s : RS) : (intsR s).1.length < 2 ^ 62 := by
  unfold intsR
  split
  · split
    · obtain ⟨n, hn, hn2⟩ := num_two (s.b.take 2) (by simp; omega)
      rw [hn, Int.toNat_natCast]
      split
      · rename_i heq
        have := goI_size _ _ _ _ heq
        show _ < _
        simp only
        omega
      · simp
    · simp
  · simp

theorem drop_cons {α : Type} [Inhabited α] (l : List α) (k : Nat) (hk : k < l.length) : l.drop k = l.getD k default :: l.drop (k + 1) := by
  rw [List.drop_eq_getElem_cons hk, List.getD_eq_getElem?_getD, List.getElem?_eq_getElem hk]
  rfl


end Go.Proofs.Ytgpipheibnlkhaa
