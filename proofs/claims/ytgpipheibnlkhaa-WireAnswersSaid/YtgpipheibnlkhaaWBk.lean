/- What functions of the program compute. No condition. -/
import Derived.Test.YtgpipheibnlkhaaWRs
set_option linter.unusedSimpArgs false
set_option linter.unusedVariables false
namespace Go.Proofs.Ytgpipheibnlkhaa
open Go Go.Ab

theorem num_be2 (n : Nat) (h : n < 65536) : num (be 2 (n : Int)) = n := by
  have hx : (BitVec.ofInt 64 (n : Int)).toNat = n := by
    rw [BitVec.toNat_ofInt]
    omega
  have e : numB (be 2 (n : Int)) = BitVec.ofInt 64 (n : Int) := by
    have e1 : be 2 (n : Int) = [by64 n 8, by64 n 0] := by simp [be, bep, List.range_succ]
    rw [e1]
    unfold numB
    simp only [List.foldl_cons, List.foldl_nil]
    have b1 : (0 : BitVec 64) <<< 8 ||| BitVec.ofInt 64 ((by64 n 8).toNat : Int) = BitVec.ofInt 64 (n : Int) >>> 8 := by
      unfold by64
      apply BitVec.eq_of_toNat_eq
      simp [UInt8.toNat, hx, Nat.shiftRight_eq_div_pow]
      omega
    have b0 : BitVec.ofInt 64 ((by64 n 0).toNat : Int) = ((BitVec.ofInt 64 (n : Int)).setWidth 8).setWidth 64 := by
      unfold by64
      generalize BitVec.ofInt 64 (n : Int) = y
      apply BitVec.eq_of_toNat_eq
      simp [UInt8.toNat]
      try omega
    rw [b1, b0]
    exact back8 _
  unfold num
  rw [e, hx]
  rw [wrap_i64 (by omega) (by omega)]

def Rng (x : Int) : Prop := -2 ^ 63 ≤ x ∧ x < 2 ^ 63

theorem intR_w (x : Int) (r : List UInt8) (h : Rng x) : intR ⟨be 8 x ++ r, 0⟩ = (x, ⟨r, 0⟩) := by
  have e1 : (be 8 x ++ r).take 8 = be 8 x := by rw [List.take_append_of_le_length (by rw [be_len]; omega), List.take_of_length_le (by rw [be_len]; omega)]
  have e2 : (be 8 x ++ r).drop 8 = r := by rw [List.drop_append_of_le_length (by rw [be_len]; omega), List.drop_of_length_le (by rw [be_len]; omega)]; rfl
  simp only [intR, if_true, List.length_append, be_len, e1, e2, num_be x h.1 h.2]
  rw [if_pos (by omega)]

theorem two_take (n : Nat) (r : List UInt8) : (be 2 (n : Int) ++ r).take 2 = be 2 n := by rw [List.take_append_of_le_length (by rw [be_len]; omega), List.take_of_length_le (by rw [be_len]; omega)]
theorem two_drop (n : Nat) (r : List UInt8) : (be 2 (n : Int) ++ r).drop 2 = r := by rw [List.drop_append_of_le_length (by rw [be_len]; omega), List.drop_of_length_le (by rw [be_len]; omega)]; rfl

theorem textR_w (s r : List UInt8) (h : s.length ≤ 65535) : textR ⟨textL s ++ r, 0⟩ = (s, ⟨r, 0⟩) := by
  unfold textL
  rw [List.take_of_length_le h, List.append_assoc]
  simp only [textR, if_true, List.length_append, be_len, two_take, two_drop, num_be2 s.length (by omega), Int.toNat_natCast]
  rw [if_pos (by omega), if_pos (by omega)]
  simp

theorem goI_w : ∀ (xs : List Int) (r : List UInt8), (∀ x ∈ xs, Rng x) → goI xs.length (xs.flatMap (be 8) ++ r) = (some xs, r)
  | [], r, _ => rfl
  | x :: xs, r, h => by
    have h1 := h x List.mem_cons_self
    have e0 : (x :: xs).flatMap (be 8) ++ r = be 8 x ++ (xs.flatMap (be 8) ++ r) := by simp
    rw [e0]
    have e1 : (be 8 x ++ (xs.flatMap (be 8) ++ r)).take 8 = be 8 x := by rw [List.take_append_of_le_length (by rw [be_len]; omega), List.take_of_length_le (by rw [be_len]; omega)]
    have e2 : (be 8 x ++ (xs.flatMap (be 8) ++ r)).drop 8 = xs.flatMap (be 8) ++ r := by rw [List.drop_append_of_le_length (by rw [be_len]; omega), List.drop_of_length_le (by rw [be_len]; omega)]; rfl
    simp only [List.length_cons, goI, e1, e2]
    rw [if_pos (by simp only [List.length_append, be_len]; omega), goI_w xs r (fun y hy => h y (List.mem_cons_of_mem _ hy)), num_be x h1.1 h1.2]

theorem intsR_w (xs : List Int) (r : List UInt8) (h : xs.length ≤ 65535) (hr : ∀ x ∈ xs, Rng x) : intsR ⟨intsL xs ++ r, 0⟩ = (xs, ⟨r, 0⟩) := by
  unfold intsL
  rw [List.take_of_length_le h, List.append_assoc]
  simp only [intsR, if_true, List.length_append, be_len, two_take, two_drop, num_be2 xs.length (by omega), Int.toNat_natCast, goI_w xs r hr]
  rw [if_pos (by omega)]

theorem goI_none : ∀ (n : Nat) (l : List UInt8), l.length < 8 * n → (goI n l).1 = none
  | 0, l, h => by omega
  | n + 1, l, h => by
    unfold goI
    split
    · have := goI_none n (l.drop 8) (by simp only [List.length_drop]; omega)
      split
      · rename_i heq; rw [heq] at this; cases this
      · rfl
    · rfl

theorem dropLast_app (a r : List UInt8) (h : r ≠ []) : (a ++ r).dropLast = a ++ r.dropLast := List.dropLast_append_of_ne_nil h

/-- What is left to read: all of it and t behind it; or one byte less. -/
def Left (m : Option (List UInt8)) (rest : List UInt8) (s : RS) (ok : Bool) : Prop :=
  match m with
  | some t => s = ⟨rest ++ t, 0⟩ ∧ ok = true
  | none => s.e = 8 ∨ (s.e = 0 ∧ rest ≠ [] ∧ s.b = rest.dropLast)

theorem left_int {m : Option (List UInt8)} {x : Int} {rest : List UInt8} {s : RS} {ok : Bool} (hx : Rng x) (h : Left m (be 8 x ++ rest) s ok) : Left m rest (intR s).2 (((intR s).1 == x) && ok) := by
  cases m with
  | some t =>
    obtain ⟨rfl, rfl⟩ := h
    rw [List.append_assoc, intR_w x _ hx]
    exact ⟨rfl, by simp⟩
  | none =>
    rcases h with h | ⟨h0, h1, h2⟩
    · left
      simp [intR, h]
    · obtain ⟨b, e⟩ := s
      simp only at h0 h2
      subst h0 h2
      by_cases hr : rest = []
      · subst hr
        left
        have : ¬ 8 ≤ (be 8 x ++ ([] : List UInt8)).dropLast.length := by simp [be_len]
        simp [intR, this, be_len]
      · rw [dropLast_app _ _ hr, intR_w x _ hx]
        exact .inr ⟨rfl, hr, rfl⟩

theorem left_text {m : Option (List UInt8)} {x : List UInt8} {rest : List UInt8} {s : RS} {ok : Bool} (hx : x.length ≤ 65535) (h : Left m (textL x ++ rest) s ok) : Left m rest (textR s).2 (((textR s).1 == x) && ok) := by
  cases m with
  | some t =>
    obtain ⟨rfl, rfl⟩ := h
    rw [List.append_assoc, textR_w x _ hx]
    exact ⟨rfl, by simp⟩
  | none =>
    rcases h with h | ⟨h0, h1, h2⟩
    · left
      simp [textR, h]
    · obtain ⟨b, e⟩ := s
      simp only at h0 h2
      subst h0 h2
      by_cases hr : rest = []
      · subst hr
        left
        unfold textL
        rw [List.take_of_length_le hx, List.append_nil]
        by_cases hn : x = []
        · subst hn
          have : (be 2 (([] : List UInt8).length : Int) ++ []).dropLast.length = 1 := by simp [be_len]
          simp only [textR, this]
          rfl
        · rw [dropLast_app _ _ hn]
          have hl : 0 < x.length := List.length_pos_iff.2 hn
          simp only [textR, if_true, List.length_append, be_len, two_take, two_drop, num_be2 x.length (by omega), Int.toNat_natCast, List.length_dropLast]
          rw [if_pos (by omega), if_neg (by omega)]
      · rw [dropLast_app _ _ hr, textR_w x _ hx]
        exact .inr ⟨rfl, hr, rfl⟩

theorem left_ints {m : Option (List UInt8)} {x : List Int} {rest : List UInt8} {s : RS} {ok : Bool} (hx : x.length ≤ 65535) (hr0 : ∀ y ∈ x, Rng y) (h : Left m (intsL x ++ rest) s ok) : Left m rest (intsR s).2 (((intsR s).1 == x) && ok) := by
  cases m with
  | some t =>
    obtain ⟨rfl, rfl⟩ := h
    rw [List.append_assoc, intsR_w x _ hx hr0]
    exact ⟨rfl, by simp⟩
  | none =>
    rcases h with h | ⟨h0, h1, h2⟩
    · left
      simp [intsR, h]
    · obtain ⟨b, e⟩ := s
      simp only at h0 h2
      subst h0 h2
      by_cases hr : rest = []
      · subst hr
        left
        unfold intsL
        rw [List.take_of_length_le hx, List.append_nil]
        by_cases hn : x = []
        · subst hn
          have : (be 2 (([] : List Int).length : Int) ++ ([] : List Int).flatMap (be 8)).dropLast.length = 1 := by simp [be_len]
          simp only [intsR, this]
          rfl
        · have hl : 0 < x.length := List.length_pos_iff.2 hn
          have hf : x.flatMap (be 8) ≠ [] := fun e => by
            have := flat8_len x
            rw [e] at this
            simp only [List.length_nil] at this
            omega
          rw [dropLast_app _ _ hf]
          simp only [intsR, if_true, List.length_append, be_len, two_take, two_drop, num_be2 x.length (by omega), Int.toNat_natCast, List.length_dropLast]
          rw [if_pos (by omega)]
          have hg := goI_none x.length (x.flatMap (be 8)).dropLast (by rw [List.length_dropLast, flat8_len]; omega)
          cases hq : goI x.length (x.flatMap (be 8)).dropLast with
          | mk a b =>
            rw [hq] at hg
            simp only at hg
            subst hg
            rfl
      · rw [dropLast_app _ _ hr, intsR_w x _ hx hr0]
        exact .inr ⟨rfl, hr, rfl⟩
end Go.Proofs.Ytgpipheibnlkhaa
