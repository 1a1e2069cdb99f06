/- What functions of the program compute. No condition. -/
import Derived.Test.YtdknamiaadonlaaFrLaw
set_option linter.unusedSimpArgs false
set_option linter.unusedVariables false
namespace Go.Proofs.Ytdknamiaadonlaa
open Go Go.Ab

/-! ### One bit turned is seen -/
theorem bit_inj (c d : BitVec 32) (h : bit c = bit d) : c = d := by
  have key : ∀ c : BitVec 32, (bit c).getLsbD 31 = c.getLsbD 0 ∧ ∀ i, i < 31 → (bit c).getLsbD i = (c.getLsbD (i + 1) ^^ ((3988292384#32).getLsbD i && c.getLsbD 0)) := by
    intro c
    have e : 3988292384#32 * (c &&& 1#32) = if c.getLsbD 0 then 3988292384#32 else 0#32 := by
      have h : c &&& 1#32 = if c.getLsbD 0 then 1#32 else 0#32 := by
        apply BitVec.eq_of_getLsbD_eq
        intro i hi
        rw [BitVec.getLsbD_and]
        cases i with
        | zero => cases c.getLsbD 0 <;> rfl
        | succ i =>
          have : (1#32).getLsbD (i + 1) = false := by simp
          rw [this, Bool.and_false]
          cases c.getLsbD 0 <;> simp
      rw [h]
      cases c.getLsbD 0 <;> rfl
    unfold bit
    rw [e]
    refine ⟨?_, fun i hi => ?_⟩
    · rw [BitVec.getLsbD_xor, BitVec.getLsbD_ushiftRight]
      have : c.getLsbD (1 + 31) = false := BitVec.getLsbD_of_ge _ _ (by omega)
      rw [this]
      cases c.getLsbD 0 <;> rfl
    · rw [BitVec.getLsbD_xor, BitVec.getLsbD_ushiftRight, Nat.add_comm 1 i]
      cases c.getLsbD 0 <;> simp
  have kc := key c
  have kd := key d
  have h0 : c.getLsbD 0 = d.getLsbD 0 := by rw [← kc.1, ← kd.1, h]
  apply BitVec.eq_of_getLsbD_eq
  intro i hi
  cases i with
  | zero => exact h0
  | succ i =>
    have h1 := kc.2 i (by omega)
    have h2 := kd.2 i (by omega)
    rw [h, h2, h0] at h1
    have : ∀ a b x : Bool, (a ^^ x) = (b ^^ x) → a = b := by decide
    exact (this _ _ _ h1).symm

theorem bits_inj : ∀ (n : Nat) (c d : BitVec 32), bits n c = bits n d → c = d
  | 0, c, d, h => h
  | n + 1, c, d, h => bit_inj c d (bits_inj n _ _ h)

theorem xor_cancel (a b x : BitVec 32) (h : a ^^^ x = b ^^^ x) : a = b := by
  have := congrArg (· ^^^ x) h
  simpa [BitVec.xor_assoc] using this

theorem W_inj (x y : UInt8) (h : W x = W y) : x = y := by
  have h1 := congrArg BitVec.toNat h
  have h2 : ∀ z : UInt8, (W z).toNat = z.toNat := fun z => by
    simp only [W, BitVec.toNat_setWidth]
    have := z.toNat_lt
    show z.toNat % 2 ^ 32 = z.toNat
    omega
  rw [h2, h2] at h1
  exact UInt8.toNat_inj.1 h1

theorem fold_inj : ∀ (l : List UInt8) (c d : BitVec 32), l.foldl cstep c = l.foldl cstep d → c = d
  | [], c, d, h => h
  | x :: l, c, d, h => xor_cancel c d (W x) (bits_inj 8 _ _ (fold_inj l _ _ h))

theorem crc_turn (a b : List UInt8) (x y : UInt8) (h : crc (a ++ x :: b) = crc (a ++ y :: b)) : x = y := by
  unfold crc at h
  have h1 := congrArg (~~~ ·) h
  simp only [BitVec.not_not, List.foldl_append, List.foldl_cons] at h1
  have h2 := bits_inj 8 _ _ (fold_inj b _ _ h1)
  rw [BitVec.xor_comm _ (W x), BitVec.xor_comm _ (W y)] at h2
  exact W_inj _ _ (xor_cancel _ _ _ h2)

theorem crc_set (l : List UInt8) (j : Nat) (y : UInt8) (hj : j < l.length) (hy' : y ≠ l.getD j 0) : crc (l.set j y) ≠ crc l := fun h => by
  have hy : y ≠ l[j] := by rw [List.getD_eq_getElem?_getD, List.getElem?_eq_getElem hj] at hy'; exact hy'
  have e1 : l = l.take j ++ l[j] :: l.drop (j + 1) := by simp
  have e2 : l.set j y = l.take j ++ y :: l.drop (j + 1) := by rw [List.set_eq_take_append_cons_drop, if_pos hj]
  rw [e2] at h
  have h' : crc (l.take j ++ y :: l.drop (j + 1)) = crc (l.take j ++ l[j] :: l.drop (j + 1)) := h.trans (by rw [← e1])
  exact hy (crc_turn _ _ _ _ h')

theorem four_num (l : List UInt8) (h : 4 ≤ l.length) : fourL (num l) = l.take 4 := by
  match l, h with
  | a :: b :: c :: d :: r, _ =>
    have key : ∀ i, i < 32 → (num (a :: b :: c :: d :: r)).getLsbD i = if i < 8 then d.toBitVec.getLsbD i else if i < 16 then c.toBitVec.getLsbD (i - 8) else if i < 24 then b.toBitVec.getLsbD (i - 16) else a.toBitVec.getLsbD (i - 24) := by
      intro i hi
      show (W a <<< 24 ||| W b <<< 16 ||| W c <<< 8 ||| W d).getLsbD i = _
      simp only [W, BitVec.getLsbD_or, BitVec.getLsbD_shiftLeft, BitVec.getLsbD_setWidth]
      have z : ∀ (x : BitVec 8) (k : Nat), 8 ≤ k → x.getLsbD k = false := fun x k hk => BitVec.getLsbD_of_ge _ _ hk
      by_cases h1 : i < 8
      · simp [h1, hi, show i < 24 by omega, show i < 16 by omega]
      · by_cases h2 : i < 16
        · simp [h1, h2, hi, show i < 24 by omega, z d.toBitVec i (by omega), show i - 8 < 32 by omega]
        · by_cases h3 : i < 24
          · simp [h1, h2, h3, hi, z d.toBitVec i (by omega), z c.toBitVec (i - 8) (by omega), show i - 16 < 32 by omega]
          · simp [h1, h2, h3, hi, z d.toBitVec i (by omega), z c.toBitVec (i - 8) (by omega), z b.toBitVec (i - 16) (by omega), show i - 24 < 32 by omega]
    have bye : ∀ (n : BitVec 32) (x : UInt8), (∀ i, i < 8 → n.getLsbD i = x.toBitVec.getLsbD i) → by8 n = x := fun n x h => by
      unfold by8
      have : n.setWidth 8 = x.toBitVec := by
        apply BitVec.eq_of_getLsbD_eq
        intro i hi
        rw [BitVec.getLsbD_setWidth, h i hi]
        simp [hi]
      rw [this]
    generalize num (a :: b :: c :: d :: r) = n at key ⊢
    show [by8 (n >>> 24), by8 (n >>> 16), by8 (n >>> 8), by8 n] = [a, b, c, d]
    rw [bye _ a, bye _ b, bye _ c, bye _ d]
    · intro i hi; rw [key i (by omega), if_pos hi]
    · intro i hi; rw [BitVec.getLsbD_ushiftRight, key _ (by omega), if_neg (by omega), if_pos (by omega)]; congr 1; omega
    · intro i hi; rw [BitVec.getLsbD_ushiftRight, key _ (by omega), if_neg (by omega), if_neg (by omega), if_pos (by omega)]; congr 1; omega
    · intro i hi; rw [BitVec.getLsbD_ushiftRight, key _ (by omega), if_neg (by omega), if_neg (by omega), if_neg (by omega)]; congr 1; omega

/-- A frame, one of whose bytes behind its length is turned, is told no more. -/
theorem step_turned (b r : List UInt8) (j : Nat) (y : UInt8) (hb : b.length ≤ 4000) (h4 : 4 ≤ j) (hj : j < (frameL b).length) (hy : y ≠ (frameL b).getD j 0) : step ((frameL b).set j y ++ r) = none := by
  have hfl := frameL_len b
  have hlen : ((frameL b).set j y ++ r).length = b.length + 8 + r.length := by simp [hfl]
  have hF : frameL b = fourL (BitVec.ofNat 32 b.length) ++ (fourL (crc b) ++ b) := by simp [frameL]
  have hS : (frameL b).set j y = fourL (BitVec.ofNat 32 b.length) ++ (fourL (crc b) ++ b).set (j - 4) y := by
    rw [hF, List.set_append_right _ _ h4]
    rfl
  have hn : (num ((frameL b).set j y ++ r)).toNat = b.length := by
    rw [hS, List.append_assoc, num_four]
    simp
    omega
  have hd4 : ((frameL b).set j y ++ r).drop 4 = (fourL (crc b) ++ b).set (j - 4) y ++ r := by rw [hS, List.append_assoc]; rfl
  unfold step
  rw [if_neg (by omega), hn, if_neg (by omega), if_neg]
  rw [hd4]
  have hd8 : (((frameL b).set j y ++ r).drop 8).take b.length = (((fourL (crc b) ++ b).set (j - 4) y).drop 4).take b.length := by
    rw [← List.drop_drop (i := 4) (j := 4), hd4, List.drop_append_of_le_length (by simp [fourL]), List.take_append_of_le_length (by simp [fourL])]
  rw [hd8]
  intro he
  have hyj : y ≠ (fourL (crc b) ++ b).getD (j - 4) 0 := by
    intro e
    apply hy
    rw [e, hF, List.getD_eq_getElem?_getD, List.getD_eq_getElem?_getD, List.getElem?_append_right (l₁ := fourL (BitVec.ofNat 32 b.length)) h4]
    rfl
  by_cases h8 : j < 8
  · -- the sum's own bytes
    have e1 : (fourL (crc b) ++ b).set (j - 4) y = (fourL (crc b)).set (j - 4) y ++ b := by rw [List.set_append_left _ _ (by simp [fourL]; omega)]
    rw [e1] at he
    have e2 : (((fourL (crc b)).set (j - 4) y ++ b).drop 4).take b.length = b := by
      rw [List.drop_append_of_le_length (by simp [fourL]), List.drop_of_length_le (by simp [fourL])]
      simp
    rw [e2] at he
    have e3 := four_num ((fourL (crc b)).set (j - 4) y ++ b ++ r) (by simp [fourL])
    rw [← he, List.append_assoc, List.take_append_of_le_length (by simp [fourL]), List.take_of_length_le (by simp [fourL])] at e3
    apply hyj
    have h5 : j - 4 < (fourL (crc b)).length := by show j - 4 < 4; omega
    rw [List.getD_eq_getElem?_getD, List.getElem?_append_left h5, e3, List.getElem?_set_self h5]
    rfl
  · have e1 : (fourL (crc b) ++ b).set (j - 4) y = fourL (crc b) ++ b.set (j - 8) y := by
      rw [List.set_append_right _ _ (by simp [fourL]; omega)]
      congr 2
    rw [e1, List.append_assoc, num_four] at he
    have e2 : ((fourL (crc b) ++ b.set (j - 8) y).drop 4).take b.length = b.set (j - 8) y := by
      have : (fourL (crc b) ++ b.set (j - 8) y).drop 4 = b.set (j - 8) y := rfl
      rw [this, List.take_of_length_le (by simp)]
    rw [e2] at he
    refine crc_set b (j - 8) y (by omega) ?_ he
    intro e
    apply hyj
    have h5 : (fourL (crc b)).length = 4 := rfl
    rw [e, List.getD_eq_getElem?_getD, List.getD_eq_getElem?_getD, List.getElem?_append_right (by omega), h5]
    congr 2
end Go.Proofs.Ytdknamiaadonlaa
