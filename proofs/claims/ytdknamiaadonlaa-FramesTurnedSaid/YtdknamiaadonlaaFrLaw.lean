/- What functions of the program compute. No condition. -/
import Derived.Test.YtdknamiaadonlaaFr
set_option linter.unusedSimpArgs false
set_option linter.unusedVariables false
namespace Go.Proofs.Ytdknamiaadonlaa
open Go Go.Ab

theorem num_four (n : BitVec 32) (r : List UInt8) : num (fourL n ++ r) = n := by
  show W (by8 (n >>> 24)) <<< 24 ||| W (by8 (n >>> 16)) <<< 16 ||| W (by8 (n >>> 8)) <<< 8 ||| W (by8 n) = n
  apply BitVec.eq_of_getLsbD_eq
  intro i hi
  simp only [W, by8, BitVec.getLsbD_or, BitVec.getLsbD_shiftLeft, BitVec.getLsbD_setWidth, BitVec.getLsbD_ushiftRight]
  by_cases h1 : i < 8
  · have : ¬ (8 ≤ i) := by omega
    simp [h1, hi, show i < 24 by omega, show i < 16 by omega]
  · by_cases h2 : i < 16
    · simp [h1, h2, hi, show i < 24 by omega, show i - 8 < 8 by omega, show 8 + (i - 8) = i by omega, show i - 8 < 32 by omega]
    · by_cases h3 : i < 24
      · simp [h1, h2, h3, hi, show ¬ i - 8 < 8 by omega, show i - 16 < 8 by omega, show 16 + (i - 16) = i by omega, show i - 16 < 32 by omega]
      · simp [h1, h2, h3, hi, show ¬ i - 8 < 8 by omega, show ¬ i - 16 < 8 by omega, show i - 24 < 8 by omega, show 24 + (i - 24) = i by omega, show i - 24 < 32 by omega]

theorem frameL_len (b : List UInt8) : (frameL b).length = b.length + 8 := by
  simp only [frameL, fourL, List.length_append, List.length_cons, List.length_nil]
  omega

theorem num_frame (b r : List UInt8) (hb : b.length ≤ 4000) : (num (frameL b ++ r)).toNat = b.length := by
  have : frameL b ++ r = fourL (BitVec.ofNat 32 b.length) ++ (fourL (crc b) ++ b ++ r) := by simp [frameL]
  rw [this, num_four]
  simp
  omega

theorem step_frame (b r : List UInt8) (hb : b.length ≤ 4000) : step (frameL b ++ r) = some (b, r) := by
  have h1 := num_frame b r hb
  have h2 : (frameL b ++ r).length = b.length + 8 + r.length := by rw [List.length_append, frameL_len]
  have h3 : (frameL b ++ r).drop 8 = b ++ r := by simp [frameL, fourL]
  have h4 : (frameL b ++ r).drop 4 = fourL (crc b) ++ (b ++ r) := by simp [frameL, fourL]
  have h5 : (frameL b ++ r).drop (8 + b.length) = r := by
    rw [← List.drop_drop, h3]
    simp
  unfold step
  rw [if_neg (by omega), h1, if_neg (by omega), h3, h4, num_four, h5]
  simp

theorem scan_frames (r : List UInt8) : ∀ ls : List (List UInt8), (∀ b ∈ ls, b.length ≤ 4000) → scan (ls.flatMap frameL ++ r) = (ls ++ (scan r).1, (ls.flatMap frameL).length + (scan r).2)
  | [], _ => by simp
  | b :: ls, h => by
    rw [List.flatMap_cons, List.append_assoc, scan_some (step_frame b _ (h b List.mem_cons_self)), scan_frames r ls (fun q hq => h q (List.mem_cons_of_mem _ hq))]
    simp only [List.cons_append, List.length_append, frameL_len]
    congr 1
    omega

/-- A front of a frame is none. -/
theorem scan_front (b : List UInt8) (k : Nat) (hb : b.length ≤ 4000) (hk : k < (frameL b).length) : scan ((frameL b).take k) = ([], 0) := by
  refine scan_none ?_
  have hl := frameL_len b
  unfold step
  by_cases h8 : k < 8
  · rw [if_pos (by simp; omega)]
  · rw [if_neg (by simp; omega)]
    have h1 : (num ((frameL b).take k)).toNat = b.length := by
      have e : (frameL b).take k = fourL (BitVec.ofNat 32 b.length) ++ (fourL (crc b) ++ b).take (k - 4) := by
        rw [frameL, List.append_assoc, List.take_append]
        have : (fourL (BitVec.ofNat 32 b.length)).length = 4 := rfl
        rw [List.take_of_length_le (by omega), this]
      rw [e, num_four]
      simp
      omega
    rw [h1, if_pos (.inr (by simp; omega))]
theorem scan_nil : scan [] = ([], 0) := scan_none (by simp [step])
end Go.Proofs.Ytdknamiaadonlaa
