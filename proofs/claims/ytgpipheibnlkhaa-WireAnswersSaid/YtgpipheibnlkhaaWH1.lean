/- What functions of the program compute. No condition. -/
import Derived.Test.YtgpipheibnlkhaaWB2
set_option linter.unusedSimpArgs false
set_option linter.unusedVariables false
namespace Go.Proofs.Ytgpipheibnlkhaa
open Go Go.Ab

/-! What is read was written so. -/
def natB (l : List UInt8) : Nat := l.foldl (fun c b => c * 256 + b.toNat) 0
theorem natB_snoc (l : List UInt8) (b : UInt8) : natB (l ++ [b]) = natB l * 256 + b.toNat := by simp [natB]
theorem u8_lt (b : UInt8) : b.toNat < 256 := b.toBitVec.isLt
theorem natB_lt : ∀ (n : Nat) (l : List UInt8), l.length = n → natB l < 256 ^ n
  | 0, l, h => by
    rw [List.eq_nil_of_length_eq_zero h]; decide
  | n + 1, l, h => by
    have hne : l ≠ [] := by intro e; subst e; cases h
    rw [← List.dropLast_concat_getLast hne, natB_snoc]
    have := natB_lt n l.dropLast (by rw [List.length_dropLast]; omega)
    have := u8_lt (l.getLast hne)
    rw [Nat.pow_succ]
    omega
theorem natB_inj : ∀ (n : Nat) (l m : List UInt8), l.length = n → m.length = n → natB l = natB m → l = m
  | 0, l, m, h, k, _ => by rw [List.eq_nil_of_length_eq_zero h, List.eq_nil_of_length_eq_zero k]
  | n + 1, l, m, h, k, e => by
    have hl : l ≠ [] := by intro e; subst e; cases h
    have hm : m ≠ [] := by intro e; subst e; cases k
    rw [← List.dropLast_concat_getLast hl, ← List.dropLast_concat_getLast hm] at e ⊢
    rw [natB_snoc, natB_snoc] at e
    have b1 := u8_lt (l.getLast hl)
    have b2 := u8_lt (m.getLast hm)
    have e1 : natB l.dropLast = natB m.dropLast := by omega
    have e2 : (l.getLast hl).toNat = (m.getLast hm).toNat := by omega
    rw [natB_inj n _ _ (by rw [List.length_dropLast]; omega) (by rw [List.length_dropLast]; omega) e1, UInt8.toNat_inj.1 e2]

theorem numB_nat : ∀ (n : Nat) (l : List UInt8), l.length = n → n ≤ 8 → (numB l).toNat = natB l
  | 0, l, h, _ => by
    rw [List.eq_nil_of_length_eq_zero h]; rfl
  | n + 1, l, h, hn => by
    have hl : l ≠ [] := by intro e; subst e; cases h
    have ih := numB_nat n l.dropLast (by rw [List.length_dropLast]; omega) (by omega)
    have lt := natB_lt n l.dropLast (by rw [List.length_dropLast]; omega)
    rw [← List.dropLast_concat_getLast hl, natB_snoc]
    generalize l.getLast hl = b
    generalize l.dropLast = m at ih lt
    have e : numB (m ++ [b]) = (numB m <<< 8) ||| BitVec.ofInt 64 (b.toNat : Int) := by simp [numB]
    have hb := u8_lt b
    have hp : 256 ^ n ≤ 256 ^ 7 := Nat.pow_le_pow_right (by omega) (by omega)
    have hc : (BitVec.ofInt 64 (b.toNat : Int)).toNat = b.toNat := by rw [BitVec.toNat_ofInt]; omega
    rw [e, BitVec.toNat_or, BitVec.toNat_shiftLeft, ih, hc, Nat.shiftLeft_eq, Nat.mod_eq_of_lt (by omega), ← Nat.shiftLeft_eq, ← Nat.shiftLeft_add_eq_or_of_lt (by omega), Nat.shiftLeft_eq]

theorem wrap_val (a : Nat) (ha : a < 2 ^ 64) : IntKind.i64.wrap (a : Int) = if a < 2 ^ 63 then (a : Int) else (a : Int) - 2 ^ 64 := by
  have h : (a : Int) % (2 ^ IntKind.i64.bits : Int) = a := by show (a : Int) % 2 ^ 64 = a; omega
  unfold IntKind.wrap
  simp only [h]
  show (if (true && decide ((a : Int) ≥ 2 ^ 63)) = true then (a : Int) - 2 ^ 64 else (a : Int)) = _
  by_cases hc : a < 2 ^ 63
  · rw [if_pos hc, if_neg (by simp; omega)]
  · rw [if_neg hc, if_pos (by simp; omega)]
theorem wrap_inj (a b : Nat) (ha : a < 2 ^ 64) (hb : b < 2 ^ 64) (h : IntKind.i64.wrap (a : Int) = IntKind.i64.wrap (b : Int)) : a = b := by
  rw [wrap_val a ha, wrap_val b hb] at h
  split at h <;> split at h <;> omega
theorem num_rng (l : List UInt8) : Rng (num l) := by
  unfold num Rng
  have := (numB l).isLt
  rw [wrap_val _ this]
  split <;> omega
theorem num_inj {n : Nat} {l m : List UInt8} (hn : n ≤ 8) (hl : l.length = n) (hm : m.length = n) (h : num l = num m) : l = m := by
  refine natB_inj n l m hl hm ?_
  rw [← numB_nat n l hl hn, ← numB_nat n m hm hn]
  exact wrap_inj _ _ (numB l).isLt (numB m).isLt h
theorem be_num8 (l : List UInt8) (h : l.length = 8) : be 8 (num l) = l := num_inj (n := 8) (by omega) (be_len _ _) h (num_be _ (num_rng l).1 (num_rng l).2)
theorem be_num2 (l : List UInt8) (h : l.length = 2) : be 2 (num l) = l := by
  obtain ⟨n, h1, h2⟩ := num_two l (by omega)
  refine num_inj (n := 2) (by omega) (be_len _ _) h ?_
  rw [h1, num_be2 n h2]

theorem int_inv {s : RS} (h : (intR s).2.e = 0) : s.e = 0 ∧ s.b = be 8 (intR s).1 ++ (intR s).2.b := by
  unfold intR at h ⊢
  by_cases he : s.e = 0
  · rw [if_pos he] at h ⊢
    by_cases h8 : 8 ≤ s.b.length
    · rw [if_pos h8] at h ⊢
      refine ⟨he, ?_⟩
      simp only
      rw [be_num8 _ (by rw [List.length_take]; omega), List.take_append_drop]
    · rw [if_neg h8] at h; cases h
  · rw [if_neg he] at h; exact absurd h he
theorem text_inv {s : RS} (h : (textR s).2.e = 0) : s.e = 0 ∧ s.b = textL (textR s).1 ++ (textR s).2.b := by
  unfold textR at h ⊢
  by_cases he : s.e = 0
  · rw [if_pos he] at h ⊢
    by_cases h2 : 2 ≤ s.b.length
    · rw [if_pos h2] at h ⊢
      obtain ⟨n, hn, hn2⟩ := num_two (s.b.take 2) (by rw [List.length_take]; omega)
      by_cases hk : (num (s.b.take 2)).toNat ≤ (s.b.drop 2).length
      · rw [if_pos hk] at h ⊢
        refine ⟨he, ?_⟩
        simp only
        rw [hn, Int.toNat_natCast] at hk ⊢
        have e1 : ((s.b.drop 2).take n).length = n := by rw [List.length_take]; omega
        unfold textL
        rw [List.take_of_length_le (by omega), e1, ← hn, be_num2 _ (by rw [List.length_take]; omega), List.append_assoc, List.take_append_drop, List.take_append_drop]
      · rw [if_neg hk] at h; cases h
    · rw [if_neg h2] at h; cases h
  · rw [if_neg he] at h; exact absurd h he
theorem goI_inv : ∀ (n : Nat) (l : List UInt8) (xs : List Int) (r : List UInt8), goI n l = (some xs, r) → l = xs.flatMap (be 8) ++ r ∧ xs.length = n
  | 0, l, xs, r, h => by
    simp only [goI, Prod.mk.injEq, Option.some.injEq] at h
    obtain ⟨rfl, rfl⟩ := h
    exact ⟨rfl, rfl⟩
  | n + 1, l, xs, r, h => by
    unfold goI at h
    split at h
    · rename_i h8
      cases hq : goI n (l.drop 8) with
      | mk a q =>
        rw [hq] at h
        cases a with
        | none => simp at h
        | some ys =>
          simp only [Prod.mk.injEq, Option.some.injEq] at h
          obtain ⟨rfl, rfl⟩ := h
          obtain ⟨e1, e2⟩ := goI_inv n _ ys q hq
          refine ⟨?_, by simp [e2]⟩
          rw [List.flatMap_cons, be_num8 _ (by rw [List.length_take]; omega), List.append_assoc, ← e1, List.take_append_drop]
    · simp at h
theorem ints_inv {s : RS} (h : (intsR s).2.e = 0) : s.e = 0 ∧ s.b = intsL (intsR s).1 ++ (intsR s).2.b := by
  unfold intsR at h ⊢
  by_cases he : s.e = 0
  · rw [if_pos he] at h ⊢
    by_cases h2 : 2 ≤ s.b.length
    · rw [if_pos h2] at h ⊢
      obtain ⟨n, hn, hn2⟩ := num_two (s.b.take 2) (by rw [List.length_take]; omega)
      rw [hn, Int.toNat_natCast] at h ⊢
      cases hq : goI n (s.b.drop 2) with
      | mk a q =>
        rw [hq] at h
        cases a with
        | none => simp at h
        | some xs =>
          obtain ⟨e1, e2⟩ := goI_inv _ _ _ _ hq
          refine ⟨he, ?_⟩
          simp only
          unfold intsL
          rw [List.take_of_length_le (by omega), e2, ← hn, be_num2 _ (by rw [List.length_take]; omega), List.append_assoc, ← e1, List.take_append_drop]
    · rw [if_neg h2] at h; cases h
  · rw [if_neg he] at h; exact absurd h he

theorem ints_cons2 (x : Int) (l : List Int) : ints (x :: l) = be 8 x ++ ints l := by simp [ints]
theorem ints_nil2 : ints [] = [] := rfl
theorem ask_inv {s : RS} (h : (ask1 s).2.e = 0) : s.e = 0 ∧ s.b = ints (askI (ask1 s).1) ++ (ask1 s).2.b := by
  unfold ask1 at h ⊢
  simp only at h ⊢
  obtain ⟨h, e1⟩ := int_inv h
  obtain ⟨h, e2⟩ := int_inv h
  obtain ⟨h, e3⟩ := int_inv h
  obtain ⟨h, e4⟩ := int_inv h
  obtain ⟨h, e5⟩ := int_inv h
  obtain ⟨h, e6⟩ := int_inv h
  obtain ⟨h, e7⟩ := int_inv h
  refine ⟨h, ?_⟩
  simp only [askI, ints_cons2, ints_nil2, List.append_nil, List.append_assoc]
  rw [← e1, ← e2, ← e3, ← e4, ← e5, ← e6, ← e7]
theorem asksN_inv : ∀ (n : Nat) {s : RS}, (asksN n s).2.e = 0 → s.e = 0 ∧ s.b = ((asksN n s).1.flatMap fun a => ints (askI a)) ++ (asksN n s).2.b ∧ (asksN n s).1.length = n
  | 0, s, h => ⟨h, rfl, rfl⟩
  | n + 1, s, h => by
    obtain ⟨h1, e1, e3⟩ := asksN_inv n (s := (ask1 s).2) h
    obtain ⟨h2, e2⟩ := ask_inv h1
    refine ⟨h2, ?_, by simp [asksN, e3]⟩
    show s.b = (((ask1 s).1 :: (asksN n (ask1 s).2).1).flatMap fun a => ints (askI a)) ++ (asksN n (ask1 s).2).2.b
    rw [List.flatMap_cons, List.append_assoc, ← e1, ← e2]
theorem failR_e {s : RS} {v : Int} (hv : v ≠ 0) : (failR s v).e ≠ 0 := by
  unfold failR
  simp only
  split
  · exact hv
  · assumption
theorem asks_inv {s : RS} (h : (asksR s).2.e = 0) : s.e = 0 ∧ s.b = be 8 ((asksR s).1.length : Int) ++ ((asksR s).1.flatMap fun a => ints (askI a)) ++ (asksR s).2.b ∧ (asksR s).1.length ≤ 20 := by
  unfold asksR at h ⊢
  by_cases hc : (intR s).1 < 0 ∨ 20 < (intR s).1
  · rw [if_pos hc] at h; exact absurd h (failR_e (by decide))
  · rw [if_neg hc] at h ⊢
    obtain ⟨h1, e1, e2⟩ := asksN_inv _ h
    obtain ⟨h2, e3⟩ := int_inv h1
    refine ⟨h2, ?_, by omega⟩
    rw [e2, List.append_assoc, ← e1, Int.toNat_of_nonneg (by omega), ← e3]

theorem parsB_kind (k : Int) (s : RS) : (parsB k s).1.kind = k := by
  unfold parsB
  (repeat' split) <;> rfl
theorem parsB_inv {k : Int} {s : RS} (h : (parsB k s).2.e = 0) : s.e = 0 ∧ s.b = body (parsB k s).1 ++ (parsB k s).2.b := by
  have hk := parsB_kind k s
  unfold body
  rw [hk]
  unfold parsB at h ⊢
  by_cases k1 : k = 1
  · simp only [if_pos k1] at h ⊢
    exact text_inv h
  simp only [if_neg k1] at h ⊢
  by_cases k2 : k = 2
  · simp only [if_pos k2] at h ⊢
    obtain ⟨h, e1⟩ := int_inv h
    obtain ⟨h, e2⟩ := int_inv h
    obtain ⟨h, e3⟩ := int_inv h
    obtain ⟨h, e4⟩ := int_inv h
    obtain ⟨h, e5⟩ := int_inv h
    refine ⟨h, ?_⟩
    simp only [ints_cons2, ints_nil2, List.append_nil, List.append_assoc]
    rw [← e1, ← e2, ← e3, ← e4, ← e5]
  simp only [if_neg k2] at h ⊢
  by_cases k3 : k = 3
  · simp only [if_pos k3] at h ⊢
    obtain ⟨h, e1⟩ := ints_inv h
    obtain ⟨h, e2⟩ := int_inv h
    obtain ⟨h, e3⟩ := int_inv h
    refine ⟨h, ?_⟩
    simp only [ints_cons2, ints_nil2, List.append_nil, List.append_assoc]
    rw [← e1, ← e2, ← e3]
  simp only [if_neg k3] at h ⊢
  by_cases k4 : k = 4
  · simp only [if_pos k4] at h ⊢
    obtain ⟨h, e1⟩ := int_inv h
    obtain ⟨h, e2⟩ := int_inv h
    obtain ⟨h, e3⟩ := int_inv h
    obtain ⟨h, e4⟩ := int_inv h
    obtain ⟨h, e5⟩ := text_inv h
    obtain ⟨h, e6⟩ := int_inv h
    refine ⟨h, ?_⟩
    simp only [ints_cons2, ints_nil2, List.append_nil, List.append_assoc]
    rw [← e1, ← e2, ← e3, ← e4, ← e5, ← e6]
  simp only [if_neg k4] at h ⊢
  by_cases k5 : k = 5
  · simp only [if_pos k5] at h ⊢
    obtain ⟨h, e1⟩ := ints_inv h
    obtain ⟨h, e2, _⟩ := asks_inv h
    obtain ⟨h, e3⟩ := int_inv h
    obtain ⟨h, e4⟩ := int_inv h
    refine ⟨h, ?_⟩
    simp only [List.append_assoc] at e2
    simp only [ints_cons2, ints_nil2, List.append_nil, List.append_assoc]
    rw [← e1]
    show s.b = be 8 (intR s).1 ++ (be 8 (intR (intR s).2).1 ++ (be 8 _ ++ (((asksR (intR (intR s).2).2).1.flatMap fun a => ints (askI a)) ++ (asksR (intR (intR s).2).2).2.b)))
    rw [← e2, ← e3, ← e4]
  simp only [if_neg k5] at h ⊢
  by_cases k6 : k = 6 ∨ k = 7 ∨ k = 10
  · simp only [if_pos k6] at h ⊢
    obtain ⟨h, e1⟩ := int_inv h
    refine ⟨h, ?_⟩
    simp only [ints_cons2, ints_nil2, List.append_nil]
    rw [← e1]
  simp only [if_neg k6] at h ⊢
  by_cases k8 : k = 8
  · simp only [if_pos k8] at h ⊢
    obtain ⟨h, e1⟩ := int_inv h
    refine ⟨h, ?_⟩
    simp only [ints_cons2, ints_nil2, List.append_nil]
    rw [← e1]
  simp only [if_neg k8] at h ⊢
  by_cases k9 : k = 9
  · simp only [if_pos k9] at h ⊢
    obtain ⟨h, e1⟩ := int_inv h
    obtain ⟨h, e2⟩ := int_inv h
    obtain ⟨h, e3⟩ := int_inv h
    obtain ⟨h, e4⟩ := int_inv h
    obtain ⟨h, e5⟩ := int_inv h
    obtain ⟨h, e6⟩ := int_inv h
    obtain ⟨h, e7⟩ := int_inv h
    refine ⟨h, ?_⟩
    simp only [ints_cons2, ints_nil2, List.append_nil, List.append_assoc]
    rw [← e1, ← e2, ← e3, ← e4, ← e5, ← e6, ← e7]
  simp only [if_neg k9] at h ⊢
  exact ⟨h, rfl⟩

theorem parse_inv {b : List UInt8} (h : (parse b).2 = 0) : enc (parse b).1 = b ∧ wrongI (parse b).1 = 0 := by
  unfold parse done at h ⊢
  by_cases he : endE (pars ⟨b, 0⟩).2 ≠ 0
  · rw [if_pos he] at h; exact absurd h he
  rw [if_neg he] at h ⊢
  by_cases hw : wrongI (pars ⟨b, 0⟩).1 ≠ 0
  · rw [if_pos hw] at h; exact absurd h hw
  rw [if_neg hw] at h ⊢
  refine ⟨?_, by simpa using hw⟩
  simp only [ne_eq, Decidable.not_not] at he
  have h0 : (pars ⟨b, 0⟩).2.e = 0 ∧ (pars ⟨b, 0⟩).2.b = [] := by
    unfold endE at he
    split at he
    · cases he
    · rename_i hn
      refine ⟨he, ?_⟩
      rw [he] at hn
      exact List.eq_nil_of_length_eq_zero (by simp at hn; simp [hn])
  obtain ⟨h1, h2⟩ := h0
  have hk : (pars ⟨b, 0⟩).1.kind = (intR ⟨b, 0⟩).1 := parsB_kind _ _
  obtain ⟨a1, a2⟩ := parsB_inv (k := (intR ⟨b, 0⟩).1) h1
  by_cases hb : (intR ⟨b, 0⟩).1 < 1 ∨ 11 < (intR ⟨b, 0⟩).1
  · rw [if_pos hb] at a1; exact absurd a1 (failR_e (by decide))
  · rw [if_neg hb] at a1 a2
    obtain ⟨a3, a4⟩ := int_inv a1
    have e : body (pars ⟨b, 0⟩).1 ++ (pars ⟨b, 0⟩).2.b = (intR ⟨b, 0⟩).2.b := by
      rw [a2]
      unfold pars
      rw [if_neg hb]
    unfold enc
    rw [h2, List.append_nil] at e
    rw [e, hk, ints_cons2, ints_nil2, List.append_nil]
    exact a4.symm

theorem mark_inv {m : Int} {s : RS} (h : (markR m s).e = 0) : (m = 0 ∨ m = 1) ∧ markR m s = s := by
  unfold markR at h ⊢
  split at h
  · exact absurd h (failR_e (by decide))
  · rename_i hn
    rw [if_neg hn]
    exact ⟨by omega, rfl⟩
theorem cont_inv {s : RS} (h : (cont1 s).2.e = 0) : s.e = 0 ∧ s.b = ints (contI (cont1 s).1) ++ (cont1 s).2.b := by
  unfold cont1 at h ⊢
  simp only at h ⊢
  obtain ⟨h, e1⟩ := int_inv h
  obtain ⟨hm, em⟩ := mark_inv h
  rw [em] at h e1 ⊢
  obtain ⟨h, e2⟩ := int_inv h
  obtain ⟨h, e3⟩ := int_inv h
  obtain ⟨h, e4⟩ := int_inv h
  obtain ⟨h, e5⟩ := int_inv h
  obtain ⟨h, e6⟩ := int_inv h
  obtain ⟨h, e7⟩ := int_inv h
  obtain ⟨h, e8⟩ := int_inv h
  obtain ⟨h, e9⟩ := int_inv h
  refine ⟨h, ?_⟩
  simp only [contI, ints_cons2, ints_nil2, List.append_nil, List.append_assoc]
  have hq : ∀ m : Int, m = 0 ∨ m = 1 → (if (m == 1) = true then (1 : Int) else 0) = m := by
    intro m hm
    rcases hm with rfl | rfl <;> rfl
  rw [hq _ hm, ← e1, ← e2, ← e3, ← e4, ← e5, ← e6, ← e7, ← e8, ← e9]
theorem contsN_inv : ∀ (n : Nat) {s : RS}, (contsN n s).2.e = 0 → s.e = 0 ∧ s.b = ((contsN n s).1.flatMap fun a => ints (contI a)) ++ (contsN n s).2.b
  | 0, s, h => ⟨h, rfl⟩
  | n + 1, s, h => by
    obtain ⟨h1, e1⟩ := contsN_inv n (s := (cont1 s).2) h
    obtain ⟨h2, e2⟩ := cont_inv h1
    refine ⟨h2, ?_⟩
    show s.b = (((cont1 s).1 :: (contsN n (cont1 s).2).1).flatMap fun a => ints (contI a)) ++ (contsN n (cont1 s).2).2.b
    rw [List.flatMap_cons, List.append_assoc, ← e1, ← e2]
theorem numO_inv {s : RS} (h : (numO s).2.e = 0) : s.e = 0 ∧ s.b = be 8 (((numO s).1.toNat : Nat) : Int) ++ (numO s).2.b := by
  unfold numO at h ⊢
  split at h
  · exact absurd h (failR_e (by decide))
  · rename_i hn
    rw [if_neg hn]
    obtain ⟨h, e⟩ := int_inv h
    refine ⟨h, ?_⟩
    simp only
    rw [Int.toNat_of_nonneg (by omega)]
    exact e
theorem errO_inv {s : RS} (h : (errO s).2.e = 0) : s.e = 0 ∧ s.b = be 8 (errO s).1 ++ (errO s).2.b ∧ 0 ≤ (errO s).1 ∧ (errO s).1 ≤ 19 := by
  unfold errO at h ⊢
  simp only at h ⊢
  by_cases hb : (intR s).1 < 0 ∨ 19 < (intR s).1
  · rw [if_pos hb] at h; exact absurd h (failR_e (by decide))
  · rw [if_neg hb] at h ⊢
    obtain ⟨h, e⟩ := int_inv h
    exact ⟨h, e, by omega, by omega⟩

theorem parseO_inv {b : List UInt8} (h : (parseO b).2 = 0) : encO (parseO b).1 = b ∧ wrongO (parseO b).1 = 0 := by
  unfold parseO doneO at h ⊢
  by_cases he : endE (parsO ⟨b, 0⟩).2 ≠ 0
  · rw [if_pos he] at h; exact absurd h he
  rw [if_neg he] at h ⊢
  by_cases hw : manyO (parsO ⟨b, 0⟩).1 = true
  · rw [if_pos hw] at h; cases h
  rw [if_neg hw] at h ⊢
  simp only [ne_eq, Decidable.not_not] at he
  have h0 : (parsO ⟨b, 0⟩).2.e = 0 ∧ (parsO ⟨b, 0⟩).2.b = [] := by
    unfold endE at he
    split at he
    · cases he
    · rename_i hn
      refine ⟨he, ?_⟩
      rw [he] at hn
      exact List.eq_nil_of_length_eq_zero (by simp at hn; simp [hn])
  obtain ⟨h1, h2⟩ := h0
  unfold parsO at h1 h2 hw ⊢
  simp only at h1 h2 hw ⊢
  obtain ⟨h, e1⟩ := int_inv h1
  obtain ⟨h, e2⟩ := ints_inv h
  obtain ⟨h, e3⟩ := ints_inv h
  obtain ⟨h, e4⟩ := contsN_inv _ h
  obtain ⟨h, e5⟩ := numO_inv h
  obtain ⟨h, e6, r1, r2⟩ := errO_inv h
  have hl := contsN_len (numO (errO ⟨b, 0⟩).2).1.toNat (numO (errO ⟨b, 0⟩).2).2
  rw [h2, List.append_nil] at e1
  refine ⟨?_, ?_⟩
  · simp only [encO, ints_cons2, ints_nil2, List.append_nil, List.append_assoc]
    rw [hl, ← e1, ← e2, ← e3, ← e4, ← e5]
    exact e6.symm
  · unfold wrongO
    rw [if_neg (by simp only; omega), if_neg hw]
end Go.Proofs.Ytgpipheibnlkhaa
