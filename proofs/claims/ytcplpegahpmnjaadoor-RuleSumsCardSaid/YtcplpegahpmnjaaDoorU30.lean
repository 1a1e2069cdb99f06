/- What functions of the program compute. No condition. -/
import Derived.Test.YtcplpegahpmnjaaDoorU29
set_option linter.unusedSimpArgs false
set_option linter.unusedVariables false
namespace Go.Proofs.YtcplpegahpmnjaaDoor
open Go Go.Ab
def upN : Nat → List UInt8 → List (List UInt8)
  | 0, _ => []
  | n + 1, s => if s.isEmpty then [] else s :: upN n (aboveP s).1
theorem upN_eq : ∀ (n : Nat) (s : List UInt8), s.length ≤ n → upL s = upN n s
  | 0, s, h => by
    have : s = [] := List.length_eq_zero_iff.1 (by omega)
    subst this
    rw [upL_nil]; rfl
  | n + 1, s, h => by
    unfold upN
    cases s with
    | nil => rw [upL_nil]; rfl
    | cons a s =>
      have hne : a :: s ≠ [] := by simp
      have := above_len (a :: s) hne
      rw [upL_cons hne, upN_eq n _ (by simp only [List.length_cons] at this h ⊢; omega)]
      simp
def kidsS (p : List UInt8) (pl : List (List UInt8)) : List (List UInt8) := pl.filter fun s => (aboveP s).2 && (aboveP s).1 == p
theorem kidsS_eq (p : List UInt8) (qs : List Queue) : kidsL p qs = kidsS p (qs.map Queue.path) := by
  unfold kidsL kidsS
  rw [List.filter_map]
  rfl
theorem qsG_path (pl : List (List UInt8)) (us : Nat → Int) (cs : Nat → List Cap) : (qsG pl pl.length us cs).map Queue.path = pl := by
  unfold qsG
  rw [List.map_map]
  refine List.ext_getElem (by simp) fun i h1 h2 => ?_
  simp only [List.getElem_map, List.getElem_range, Function.comp, rowG]
  exact (psT_get i h2).symm
theorem qsG_len (pl : List (List UInt8)) (us : Nat → Int) (cs : Nat → List Cap) : (qsG pl pl.length us cs).length = pl.length := by simp [qsG]
theorem trees_len : ∀ t ∈ trees, t.length ≤ 7 ∧ 1 ≤ t.length ∧ ∀ x ∈ t, x.length ≤ 20 := by decide
theorem treeOf_mem (shape : Int) : treeOf shape ∈ trees := by
  have w5 := win_rng shape 5 (by omega)
  unfold treeOf
  rcases (by omega : win shape 5 = 0 ∨ win shape 5 = 1 ∨ win shape 5 = 2 ∨ win shape 5 = 3 ∨ win shape 5 = 4) with hw | hw | hw | hw | hw <;> rw [hw] <;> simp [trees]
end Go.Proofs.YtcplpegahpmnjaaDoor
