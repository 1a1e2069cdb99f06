/- What functions of the program compute. No condition. -/
import Derived.Test.YtcplpegahpmnjaaDoorR5Code
import Derived.Test.YtcplpegahpmnjaaDoorL4
set_option linter.unusedSimpArgs false
set_option linter.unusedVariables false
namespace Go.Proofs.YtcplpegahpmnjaaDoor
open Go Go.Ab
def lastN (c : UInt8) (s : List UInt8) : Nat → Int
  | 0 => -1
  | n + 1 => if s.getD n 0 = c then (n : Int) else lastN c s n
theorem lastN_rng (c : UInt8) (s : List UInt8) : ∀ n, -1 ≤ lastN c s n ∧ lastN c s n < n
  | 0 => by simp [lastN]
  | n + 1 => by
    have := lastN_rng c s n
    unfold lastN
    split <;> omega
theorem u8_eq {a b : UInt8} : ((a.toNat : Int) = (b.toNat : Int)) ↔ a = b := by
  constructor
  · intro h
    exact UInt8.toNat_inj.1 (by omega)
  · rintro rfl; rfl
theorem last41 (s : List UInt8) (c : UInt8) (hs : s.length < 2 ^ 62) : PCall Tryd.prog 41 [.str s, .int .u8 c.toNat] (.int .i64 (lastN c s s.length)) := by
  unfold PCall
  refine acall_of is41 (by simp) ?_
  unfold cc41
  simp -implicitDefEqProofs (maxSteps := 500000) (disch := first | decide | omega) only [↓preS, allS, decS, simprocAttr]
  unfold cc41L0
  simp -implicitDefEqProofs (maxSteps := 500000) (disch := first | decide | omega) only [↓preS, allS, decS, simprocAttr]
  refine aw_loopS (σ := Nat) (fun n => ⟨[(0, .str s), (1, .int .u8 c.toNat), (5, .int .i64 ((n : Int) - 1))], []⟩) (fun n => n ≤ s.length ∧ lastN c s s.length = lastN c s n) (fun n => n) s.length (.inl rfl) ⟨by omega, rfl⟩ ?_
  rintro n ⟨hn, hl⟩
  unfold cc41l0
  cases n with
  | zero =>
    simp -implicitDefEqProofs (maxSteps := 500000) (disch := first | decide | omega) only [↓preS, allS, decS, simprocAttr]
    rw [hl]
    rfl
  | succ n =>
    have e : ((n + 1 : Nat) : Int) - 1 = n := by omega
    rw [e]
    simp -implicitDefEqProofs (maxSteps := 500000) (disch := first | decide | omega) only [↓preS, allS, decS, simprocAttr]
    refine ⟨by omega, ?_⟩
    by_cases hc : s.getD n 0 = c
    · have hc2 : ((s.getD n 0).toNat : Int) = (c.toNat : Int) := by rw [hc]
      simp -implicitDefEqProofs (maxSteps := 500000) (disch := first | decide | omega) only [↓preS, allS, decS, simprocAttr]
      refine ⟨by omega, ?_⟩
      rw [hl]
      unfold lastN
      rw [if_pos hc]
    · have hc2 : ¬ ((s.getD n 0).toNat : Int) = (c.toNat : Int) := fun h => hc (u8_eq.1 h)
      simp -implicitDefEqProofs (maxSteps := 500000) (disch := first | decide | omega) only [↓preS, allS, decS, simprocAttr]
      refine ⟨by omega, n, .inl rfl, ⟨by omega, ?_⟩, by omega⟩
      rw [hl]
      conv => lhs; unfold lastN
      rw [if_neg hc]
def dot : UInt8 := 46
def dotL (s : List UInt8) : Int := lastN dot s s.length
theorem dotL_rng (s : List UInt8) : -1 ≤ dotL s ∧ dotL s < s.length := lastN_rng _ _ _
theorem last35 (s : List UInt8) (hs : s.length < 2 ^ 62) : PCall Tryd.prog 35 [.str s, .str [46]] (.int .i64 (dotL s)) := by
  unfold PCall
  refine acall_of is35 (by simp) ?_
  unfold cc35
  simp -implicitDefEqProofs (maxSteps := 500000) (disch := first | decide | omega) only [↓preS, allS, decS, simprocAttr]
  refine acK_of (FCall.of (lent := false) (last41 s dot hs) (.refl rfl) rfl (by simp)) ?_
  simp -implicitDefEqProofs (maxSteps := 500000) (disch := first | decide | omega) only [↓preS, allS, decS, simprocAttr]
  rfl
def aboveP (s : List UInt8) : List UInt8 × Bool := if dotL s < 0 then ([], false) else (s.take (dotL s).toNat, true)
theorem above_ok (s : List UInt8) (hs : s.length < 2 ^ 62) : PCall Tryd.prog 31 [.str s] (.tup [.str (aboveP s).1, .bool (aboveP s).2]) := by
  unfold PCall
  refine acall_of is31 (by simp) ?_
  unfold cc31
  simp -implicitDefEqProofs (maxSteps := 500000) (disch := first | decide | omega) only [↓preS, allS, decS, simprocAttr]
  refine acK_of (FCall.of (lent := false) (last35 s hs) (.refl rfl) rfl (by simp)) ?_
  have hr := dotL_rng s
  unfold aboveP
  by_cases h : dotL s < 0
  · rw [if_pos h]
    simp -implicitDefEqProofs (maxSteps := 500000) (disch := first | decide | omega) only [↓preS, allS, decS, simprocAttr]
  · rw [if_neg h]
    simp -implicitDefEqProofs (maxSteps := 500000) (disch := first | decide | omega) only [↓preS, allS, decS, simprocAttr]
    repeat' first | omega | apply And.intro
theorem above_len (s : List UInt8) (h : s ≠ []) : (aboveP s).1.length < s.length := by
  have hr := dotL_rng s
  have hp := List.length_pos_iff.2 h
  unfold aboveP
  split
  · simpa using hp
  · simp; omega
def upL (s : List UInt8) : List (List UInt8) := if h : s = [] then [] else s :: upL (aboveP s).1
termination_by s.length
decreasing_by exact above_len s h
theorem upL_nil : upL [] = [] := by unfold upL; simp
theorem upL_cons {s : List UInt8} (h : s ≠ []) : upL s = s :: upL (aboveP s).1 := by rw [upL, dif_neg h]
theorem up_ok (s : List UInt8) (hs : s.length ≤ 2 ^ 40) : PCall Tryd.prog 21 [.str s] (.sl false 1 ((upL s).map AV.str)) := by
  refine PCall.wk3 (acall_of is21 (by simp) ?_)
  unfold cc21
  simp -implicitDefEqProofs (maxSteps := 500000) (disch := first | decide | omega) only [↓preS, allS, decS, simprocAttr]
  unfold cc21L0
  simp -implicitDefEqProofs (maxSteps := 500000) (disch := first | decide | omega) only [↓preS, allS, decS, simprocAttr]
  refine aw_loopS (σ := List (List UInt8) × List UInt8) (fun q => ⟨[(0, .str q.2), (3, .own 0 1 0 q.1.length)], [.arr 1 (q.1.map AV.str)]⟩) (fun q => upL s = q.1 ++ upL q.2 ∧ q.2.length + q.1.length ≤ 2 ^ 40) (fun q => q.2.length) ([], s) ?_ ⟨rfl, by simp; omega⟩ ?_
  · (refine Sub.ofL [none] rfl (by simp) (by decide) (by simp [partL, AO.ro, AV.ro, AV.roL, names, AO.empty, SB, U8, SI, I64, STR] <;> (try and_intros) <;> rfl) (by simp [AO.bo, AV.bo, AV.boL, names] <;> (try and_intros) <;> rfl) ?_ <;> (try simp only [List.map_cons, List.map_nil, regsL, AV.ro, AV.roL, AV.bo, AV.boL, names, get_here, get_there, Nat.reduceBEq, List.getD_cons_zero, List.getD_cons_succ, List.getD_nil, and_true, true_and, Nat.reduceLT, List.length_cons, List.length_nil, Nat.reduceAdd, decide_true, Option.isSome_some, Bool.true_or, Bool.and_self, Option.isSome_none, Bool.false_or, beq_self_eq_true, wk0_self, wk0_nils]) <;> (try and_intros) <;> (first | done | rfl | exact .inl rfl | exact .inr ⟨rfl, _, _, rfl⟩ | (simp; done) | (simp; omega) | (refine .inl ?_; simp; done) | (refine .inl ?_; simp; omega)))
  rintro ⟨out, p⟩ ⟨hu, hl⟩
  simp only at hu hl
  unfold cc21l0
  by_cases hp : p = []
  · subst hp
    rw [upL_nil, List.append_nil] at hu
    simp -implicitDefEqProofs (maxSteps := 500000) (disch := first | decide | omega) only [↓preS, allS, decS, simprocAttr]
    rw [hu]
    exact .inl (.inl (.inl rfl))
  · have hd : (p == ([] : List UInt8)) = false := by simp [hp]
    have hlen := above_len p hp
    rw [upL_cons hp] at hu
    simp -implicitDefEqProofs (maxSteps := 500000) (disch := first | decide | omega) only [↓preS, allS, decS, simprocAttr, hd, Bool.not_false]
    refine ⟨by omega, ?_⟩
    refine acK_of (FCall.of (lent := false) (above_ok p (by omega)) (.refl rfl) rfl (by simp)) ?_
    simp -implicitDefEqProofs (maxSteps := 500000) (disch := first | decide | omega) only [↓preS, allS, decS, simprocAttr]
    refine ⟨(out ++ [p], (aboveP p).1), ?_, ⟨by simp [hu], by simp; omega⟩, by simp only; omega⟩
    simp only [List.length_append, List.length_cons, List.length_nil, List.map_append, List.map_cons, List.map_nil]
    (refine Sub.ofL [some 2] rfl (by simp) (by decide) (by simp [partL, AO.ro, AV.ro, AV.roL, names, AO.empty, SB, U8, SI, I64, STR] <;> (try and_intros) <;> rfl) (by simp [AO.bo, AV.bo, AV.boL, names] <;> (try and_intros) <;> rfl) ?_ <;> (try simp only [List.map_cons, List.map_nil, regsL, AV.ro, AV.roL, AV.bo, AV.boL, names, get_here, get_there, Nat.reduceBEq, List.getD_cons_zero, List.getD_cons_succ, List.getD_nil, and_true, true_and, Nat.reduceLT, List.length_cons, List.length_nil, Nat.reduceAdd, decide_true, Option.isSome_some, Bool.true_or, Bool.and_self, Option.isSome_none, Bool.false_or, beq_self_eq_true, wk0_self, wk0_nils]) <;> (try and_intros) <;> (first | done | rfl | exact .inl rfl | exact .inr ⟨rfl, _, _, rfl⟩ | (simp; done) | (simp; omega) | (refine .inl ?_; simp; done) | (refine .inl ?_; simp; omega)))
def okc (c : UInt8) : Bool := (97 ≤ c && c ≤ 122) || (48 ≤ c && c ≤ 57) || c == 45
def nameP (s : List UInt8) : Bool := s.all okc && !s.isEmpty && decide (s.length ≤ 12)
theorem dec_lo (s : List UInt8) (p : Nat) (h : p < s.length) (ha : s[p].toNat < 128) : decL s p = (s[p].toNat, 1) := by
  unfold decL
  have h2 : p < (⟨s.toArray⟩ : ByteArray).size := by rw [size_mk]; exact h
  exact decode_ascii ⟨s.toArray⟩ p h2 ha
theorem dec_hi (s : List UInt8) (p : Nat) (h : p < s.length) (ha : 128 ≤ s[p].toNat) : 128 ≤ (decL s p).1 ∧ (decL s p).1 < 2 ^ 31 ∧ 1 ≤ (decL s p).2 := by
  have hg : ((⟨s.toArray⟩ : ByteArray).get! (p + 0)).toNat = s[p].toNat := by
    have h2 : p < (⟨s.toArray⟩ : ByteArray).size := by rw [size_mk]; exact h
    show ((⟨s.toArray⟩ : ByteArray).get! p).toNat = _
    simp [ByteArray.get!, getElem!_pos, h]
  have hb := s[p].toNat_lt
  unfold decL Utf8.decode
  simp only [hg]
  rw [if_neg (by omega)]
  (repeat' split) <;> simp only [Utf8.runeError] <;> (try omega)
  all_goals (rename_i h1 h2; simp only [Bool.and_eq_true, decide_eq_true_eq, beq_iff_eq] at h1 h2; omega)
theorem okc_iff (c : UInt8) : okc c = true ↔ (97 ≤ c.toNat ∧ c.toNat ≤ 122) ∨ (48 ≤ c.toNat ∧ c.toNat ≤ 57) ∨ c.toNat = 45 := by
  unfold okc
  simp only [Bool.or_eq_true, Bool.and_eq_true, decide_eq_true_eq, beq_iff_eq, UInt8.le_iff_toNat_le]
  have : c = 45 ↔ c.toNat = 45 := ⟨fun h => by rw [h]; rfl, fun h => UInt8.toNat_inj.1 h⟩
  rw [this]
  show (97 ≤ c.toNat ∧ c.toNat ≤ 122 ∨ 48 ≤ c.toNat ∧ c.toNat ≤ 57) ∨ c.toNat = 45 ↔ _
  omega
theorem nameP_bad {s : List UInt8} {p : Nat} (h : p < s.length) (hb : okc s[p] = false) : nameP s = false := by
  have : s.all okc = false := by
    rw [List.all_eq_false]
    exact ⟨_, List.getElem_mem h, by simp [hb]⟩
  unfold nameP
  rw [this]
  rfl
theorem nameP_end {s : List UInt8} (h : ∀ i, (h : i < s.length) → okc s[i] = true) : nameP s = (!s.isEmpty && decide (s.length ≤ 12)) := by
  have : s.all okc = true := by
    rw [List.all_eq_true]
    intro x hx
    obtain ⟨i, hi, rfl⟩ := List.getElem_of_mem hx
    exact h i hi
  unfold nameP
  rw [this, Bool.true_and]
set_option maxHeartbeats 1000000 in
theorem name_ok (s : List UInt8) (hs : s.length ≤ 2 ^ 40) : PCall Tryd.prog 13 [.str s] (.bool (nameP s)) := by
  refine acall_of is13 (by simp) ?_
  unfold cc13
  simp -implicitDefEqProofs (maxSteps := 500000) (disch := first | decide | omega) only [↓preS, allS, decS, simprocAttr]
  unfold cc13L0
  simp -implicitDefEqProofs (maxSteps := 500000) (disch := first | decide | omega) only [↓preS, allS, decS, simprocAttr]
  refine aw_loopS (σ := Nat) (fun p => ⟨[(0, .str s), (6, .it 0)], [.siter s p]⟩) (fun p => p ≤ s.length ∧ ∀ i, (h : i < p) → (h2 : i < s.length) → okc s[i] = true) (fun p => s.length - p) 0 (.inl rfl) ⟨by omega, fun i h => by omega⟩ ?_
  rintro p ⟨hp, hall⟩
  unfold cc13l0
  simp -implicitDefEqProofs (maxSteps := 500000) (disch := first | decide | omega) only [↓preS, allS, decS, simprocAttr]
  by_cases hpl : p < s.length
  · refine nxtC_t hpl ?_
    by_cases ha : s[p].toNat < 128
    · have hd := dec_lo s p hpl ha
      have hk := okc_iff s[p]
      have hgo : okc s[p] = true → p + 1 ≤ s.length ∧ ∀ i, (h : i < p + 1) → (h2 : i < s.length) → okc s[i] = true := fun hok => ⟨by omega, fun i h h2 => by
        by_cases hi : i = p
        · subst hi; exact hok
        · exact hall i (by omega) h2⟩
      have hbad : okc s[p] = false → nameP s = false := nameP_bad hpl
      generalize s[p].toNat = c at hk ha hd
      rcases (show (c < 45 ∨ (45 < c ∧ c < 48) ∨ (57 < c ∧ c < 97) ∨ 122 < c) ∨ (c = 45 ∨ (48 ≤ c ∧ c ≤ 57) ∨ (97 ≤ c ∧ c ≤ 122)) by omega) with h | h
      · have hb : okc s[p] = false := by
          cases hq : okc s[p] with
          | false => rfl
          | true => have := hk.1 hq; omega
        have hn := hbad hb
        rcases h with h | h | h | h <;> (simp -implicitDefEqProofs (maxSteps := 500000) (disch := first | decide | omega) only [↓preS, allS, decS, simprocAttr, hd]; rw [hn])
      · have hok : okc s[p] = true := hk.2 (by omega)
        obtain ⟨g1, g2⟩ := hgo hok
        rcases h with h | h | h <;> (
          simp -implicitDefEqProofs (maxSteps := 500000) (disch := first | decide | omega) only [↓preS, allS, decS, simprocAttr, hd]
          exact ⟨p + 1, .inl rfl, ⟨g1, g2⟩, by omega⟩)
    · have hd := dec_hi s p hpl (by omega)
      have hb : okc s[p] = false := by
        cases hq : okc s[p] with
        | false => rfl
        | true => have := (okc_iff s[p]).1 hq; omega
      have hn := nameP_bad hpl hb
      obtain ⟨⟨c, w⟩, hcw⟩ : ∃ q, decL s p = q := ⟨_, rfl⟩
      rw [hcw] at hd
      simp only at hd
      simp -implicitDefEqProofs (maxSteps := 500000) (disch := first | decide | omega) only [↓preS, allS, decS, simprocAttr, hcw]
      rw [hn]
  · refine nxtC_f hpl ?_
    have hn := nameP_end (s := s) fun i h => hall i (by omega) h
    cases s with
    | nil =>
      simp -implicitDefEqProofs (maxSteps := 500000) (disch := first | decide | omega) only [↓preS, allS, decS, simprocAttr]
      rw [hn]
      rfl
    | cons x s =>
      have hd : ((x :: s) == ([] : List UInt8)) = false := by simp
      simp -implicitDefEqProofs (maxSteps := 500000) (disch := first | decide | omega) only [↓preS, allS, decS, simprocAttr, hd, Bool.not_false]
      rw [hn]
      show AV.bool (decide (((s.length + 1 : Nat) : Int) ≤ 12)) = AV.bool (decide (s.length + 1 ≤ 12))
      congr 1
      rw [decide_eq_decide]
      omega
def win (a n : Int) : Int := if a.tmod n < 0 then a.tmod n + n else a.tmod n
theorem within_ok (a n : Int) (h : 0 < n) (h2 : n < 2 ^ 62) : PCall Tryd.prog 11 [.int .i64 a, .int .i64 n] (.int .i64 (win a n)) := by
  unfold PCall
  have h3 := Int.lt_tmod_of_pos a h
  have h4 := Int.tmod_lt_of_pos a h
  refine acall_of is11 (by simp) ?_
  unfold cc11 win
  simp -implicitDefEqProofs (maxSteps := 500000) (disch := first | decide | omega) only [↓preS, allS, decS, simprocAttr]
  refine ⟨by omega, ?_⟩
  refine cK_split (fun hb => ?_) (fun hb => ?_)
  · simp (disch := omega) only [decide_eq_true_eq, decide_eq_false_iff_not, wrap_i64, beq_iff_eq, bne_iff_ne, beq_eq_false_iff_ne, bne_eq_false_iff_eq, Bool.not_eq_true, Bool.not_eq_false, eq_u32, ne_u32] at hb
    simp -implicitDefEqProofs (maxSteps := 500000) (disch := first | decide | omega) only [↓preS, allS, decS, simprocAttr]
    rw [if_pos hb]
  · simp (disch := omega) only [decide_eq_true_eq, decide_eq_false_iff_not, wrap_i64, beq_iff_eq, bne_iff_ne, beq_eq_false_iff_ne, bne_eq_false_iff_eq, Bool.not_eq_true, Bool.not_eq_false, eq_u32, ne_u32] at hb
    simp -implicitDefEqProofs (maxSteps := 500000) (disch := first | decide | omega) only [↓preS, allS, decS, simprocAttr]
    rw [if_neg hb]
theorem win_rng (a n : Int) (h : 0 < n) : 0 ≤ win a n ∧ win a n < n := by
  have h3 := Int.lt_tmod_of_pos a h
  have h4 := Int.tmod_lt_of_pos a h
  unfold win
  split <;> omega
theorem up_a : upL [114, 111, 111, 116, 46, 97] = [[114, 111, 111, 116, 46, 97], [114, 111, 111, 116]] := by
  rw [upL_cons (by simp)]
  have e : (aboveP [114, 111, 111, 116, 46, 97]).1 = [114, 111, 111, 116] := by decide
  rw [e, upL_cons (by simp)]
  have e : (aboveP [114, 111, 111, 116]).1 = [] := by decide
  rw [e, upL_nil]
theorem check_nil : PCall Tryd.prog 12 [.agg [.nils, .nils]] (.int .i64 4) := by
  unfold PCall
  refine acall_of is12 (by simp) ?_
  unfold cc12
  simp -implicitDefEqProofs (maxSteps := 500000) (disch := first | decide | omega) only [↓preS, allS, decS, simprocAttr]
theorem known_ok : PCall Tryd.prog 9 [] (.bool true) := by
  unfold PCall
  refine acall_of is9 (by simp) ?_
  unfold cc9
  simp -implicitDefEqProofs (maxSteps := 500000) (disch := first | decide | omega) only [↓preS, allS, decS, simprocAttr]
  refine acK_of (FCall.of (lent := false) (up_ok [114, 111, 111, 116, 46, 97] (by simp)) (.refl rfl) rfl (by simp)) ?_
  rw [up_a]
  simp -implicitDefEqProofs (maxSteps := 500000) (disch := first | decide | omega) only [↓preS, allS, decS, simprocAttr, List.map_cons, List.map_nil, List.length_cons, List.length_nil, fillOk, fillAV]
  refine acK_of (FCall.of (lent := false) (check_nil) (.refl rfl) rfl (by simp)) ?_
  simp -implicitDefEqProofs (maxSteps := 500000) (disch := first | decide | omega) only [↓preS, allS, decS, simprocAttr]
end Go.Proofs.YtcplpegahpmnjaaDoor
