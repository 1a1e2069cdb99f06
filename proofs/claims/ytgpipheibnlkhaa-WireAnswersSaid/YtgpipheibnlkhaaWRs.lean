/- What functions of the program compute. No condition. -/
import Derived.Test.YtgpipheibnlkhaaWRf
set_option linter.unusedSimpArgs false
set_option linter.unusedVariables false
namespace Go.Proofs.Ytgpipheibnlkhaa
open Go Go.Ab

theorem back8 (y : BitVec 64) : ((y >>> 8) <<< 8) ||| ((y.setWidth 8).setWidth 64) = y := by
  apply BitVec.eq_of_getLsbD_eq
  intro i hi
  simp only [BitVec.getLsbD_or, BitVec.getLsbD_shiftLeft, BitVec.getLsbD_setWidth, BitVec.getLsbD_ushiftRight]
  by_cases h1 : i < 8
  · simp [h1, hi]
  · simp [h1, hi, show 8 + (i - 8) = i by omega, show i - 8 < 64 by omega]

theorem numB_bep (v : Int) : ∀ k, k ≤ 8 → numB (bep 8 v k) = BitVec.ofInt 64 v >>> (8 * (8 - k))
  | 0, _ => by
    show (0 : BitVec 64) = BitVec.ofInt 64 v >>> 64
    rw [BitVec.ushiftRight_eq_zero (by omega)]
    rfl
  | k + 1, hk => by
    have ih := numB_bep v k (by omega)
    rw [bep_succ]
    unfold numB at ih ⊢
    rw [List.foldl_append, ih, List.foldl_cons, List.foldl_nil]
    have e : BitVec.ofInt 64 ((by64 v (8 * (8 - 1 - k))).toNat : Int) = ((BitVec.ofInt 64 v >>> (8 * (8 - 1 - k))).setWidth 8).setWidth 64 := by
      unfold by64
      generalize BitVec.ofInt 64 v >>> (8 * (8 - 1 - k)) = y
      apply BitVec.eq_of_toNat_eq
      simp [UInt8.toNat]
      try omega
    rw [e, show 8 * (8 - k) = 8 * (8 - 1 - k) + 8 by omega, show 8 * (8 - (k + 1)) = 8 * (8 - 1 - k) by omega, BitVec.shiftRight_add]
    exact back8 _

theorem num_be (v : Int) (h1 : -2 ^ 63 ≤ v) (h2 : v < 2 ^ 63) : num (be 8 v) = v := by
  unfold num be
  rw [numB_bep v 8 (Nat.le_refl _)]
  show IntKind.i64.wrap ((BitVec.ofInt 64 v >>> 0).toNat : Int) = v
  rw [BitVec.ushiftRight_zero]
  have e : ((BitVec.ofInt 64 v).toNat : Int) = v % 2 ^ 64 := by
    rw [BitVec.toNat_ofInt]
    omega
  rw [e]
  simp [IntKind.wrap, IntKind.bits, IntKind.signed]
  omega

end Go.Proofs.Ytgpipheibnlkhaa
