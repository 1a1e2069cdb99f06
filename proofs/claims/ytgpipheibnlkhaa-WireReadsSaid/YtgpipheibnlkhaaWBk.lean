/- What functions of the program compute. No condition. -/
import Derived.Test.YtgpipheibnlkhaaWRs
set_option linter.unusedSimpArgs false
set_option linter.unusedVariables false
namespace Go.Proofs.Ytgpipheibnlkhaa
open Go Go.Ab

theorem num_be2 (n : Nat) (h : n < 65536) : num (be 2 (n : Int)) = n := by
  have hx : (BitVec.ofInt 64 (n : Int)).toNat = n := by
    rw [BitVec.toNat_ofInt]
    omega
  have e : numB (be 2 (n : Int)) = BitVec.ofInt 64 (n : Int) := by
    have e1 : be 2 (n : Int) = [by64 n 8, by64 n 0] := by simp [be, bep, List.range_succ]
    rw [e1]
    unfold numB
    simp only [List.foldl_cons, List.foldl_nil]
    have b1 : (0 : BitVec 64) <<< 8 ||| BitVec.ofInt 64 ((by64 n 8).toNat : Int) = BitVec.ofInt 64 (n : Int) >>> 8 := by
      unfold by64
      apply BitVec.eq_of_toNat_eq
      simp [UInt8.toNat, hx, Nat.shiftRight_eq_div_pow]
      omega
    have b0 : BitVec.ofInt 64 ((by64 n 0).toNat : Int) = ((BitVec.ofInt 64 (n : Int)).setWidth 8).setWidth 64 := by
      unfold by64
      generalize BitVec.ofInt 64 (n : Int) = y
      apply BitVec.eq_of_toNat_eq
      simp [UInt8.toNat]
      try omega
    rw [b1, b0]
    exact back8 _
  unfold num
  rw [e, hx]
  rw [wrap_i64 (by omega) (by omega)]

def Rng (x : Int) : Prop := -2 ^ 63 ≤ x ∧ x < 2 ^ 63

theorem goI_none : ∀ (n : Nat) (l : List UInt8), l.length < 8 * n → (goI n l).1 = none
  | 0, l, h => by omega
  | n + 1, l, h => by
    unfold goI
    split
    · have := goI_none n (l.drop 8) (by simp only [List.length_drop]; omega)
      split
      · rename_i heq; rw [heq] at this; cases this
      · rfl
    · rfl

end Go.Proofs.Ytgpipheibnlkhaa
