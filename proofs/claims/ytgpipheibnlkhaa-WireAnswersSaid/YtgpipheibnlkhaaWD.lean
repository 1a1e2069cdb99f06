/- What functions of the program compute. No condition. -/
import Derived.Test.YtgpipheibnlkhaaWY
import Derived.Test.YtgpipheibnlkhaaWC2
set_option linter.unusedSimpArgs false
set_option linter.unusedVariables false
namespace Go.Proofs.Ytgpipheibnlkhaa
open Go Go.Ab

/-- What is left to read ends too early: or the reading has failed for it. -/
def Pre (full : List UInt8) (s : RS) : Prop := s.e = 8 ∨ (s.e = 0 ∧ ∃ t, t ≠ [] ∧ s.b ++ t = full)

theorem pre_nil {s : RS} (h : Pre [] s) : s.e = 8 := by
  rcases h with h | ⟨_, t, h1, h2⟩
  · exact h
  · exact absurd (List.append_eq_nil_iff.1 h2).2 h1

theorem pre_split {b t a rest : List UInt8} (h : b ++ t = a ++ rest) (hl : a.length ≤ b.length) : b = a ++ b.drop a.length ∧ b.drop a.length ++ t = rest := by
  have h1 : b.take a.length = a := by
    have := congrArg (List.take a.length) h
    rwa [List.take_append_of_le_length hl, List.take_append_of_le_length (Nat.le_refl _), List.take_length] at this
  have h2 : b = a ++ b.drop a.length := by
    conv => lhs; rw [← List.take_append_drop a.length b, h1]
  refine ⟨h2, ?_⟩
  rw [h2, List.append_assoc] at h
  have h3 := List.append_cancel_left h
  rw [h2]
  rw [List.drop_append_of_le_length (Nat.le_refl _), List.drop_length, List.nil_append]
  exact h3

theorem int_keep {s : RS} (h : s.e = 8) : intR s = (0, s) := by unfold intR; rw [if_neg (by omega)]
theorem text_keep {s : RS} (h : s.e = 8) : textR s = ([], s) := by unfold textR; rw [if_neg (by omega)]
theorem ints_keep {s : RS} (h : s.e = 8) : intsR s = ([], s) := by unfold intsR; rw [if_neg (by omega)]

theorem pre_int {x : Int} {rest : List UInt8} {s : RS} (hx : Rng x) (h : Pre (be 8 x ++ rest) s) : Pre rest (intR s).2 ∧ (((intR s).2.e = 8 ∧ (intR s).1 = 0) ∨ ((intR s).2.e = 0 ∧ (intR s).1 = x)) := by
  rcases h with h | ⟨h0, t, h1, h2⟩
  · rw [int_keep h]
    exact ⟨.inl h, .inl ⟨h, rfl⟩⟩
  · obtain ⟨b, e⟩ := s
    simp only at h0 h2
    subst h0
    by_cases hl : 8 ≤ b.length
    · obtain ⟨g1, g2⟩ := pre_split h2 (by rw [be_len]; exact hl)
      rw [g1, intR_w x _ hx]
      exact ⟨.inr ⟨rfl, t, h1, g2⟩, .inr ⟨rfl, rfl⟩⟩
    · have e1 : intR ⟨b, 0⟩ = (0, ⟨b, 8⟩) := by simp only [intR, if_true, hl, if_false]
      rw [e1]
      exact ⟨.inl rfl, .inl ⟨rfl, rfl⟩⟩

theorem pre_text {x rest : List UInt8} {s : RS} (hx : x.length ≤ 65535) (h : Pre (textL x ++ rest) s) : Pre rest (textR s).2 := by
  rcases h with h | ⟨h0, t, h1, h2⟩
  · rw [text_keep h]
    exact .inl h
  · obtain ⟨b, e⟩ := s
    simp only at h0 h2
    subst h0
    have et : textL x = be 2 (x.length : Int) ++ x := by unfold textL; rw [List.take_of_length_le hx]
    rw [et, List.append_assoc] at h2
    by_cases hl : 2 ≤ b.length
    · obtain ⟨g1, g2⟩ := pre_split h2 (by rw [be_len]; exact hl)
      rw [be_len] at g1 g2
      generalize b.drop 2 = b1 at g1 g2
      by_cases hk : x.length ≤ b1.length
      · obtain ⟨g3, g4⟩ := pre_split g2 hk
        have e3 : b = textL x ++ b1.drop x.length := by rw [g1, et, List.append_assoc, ← g3]
        rw [e3, textR_w x _ hx]
        exact .inr ⟨rfl, t, h1, g4⟩
      · left
        rw [g1]
        simp only [textR, if_true, List.length_append, be_len, two_take, two_drop, num_be2 x.length (by omega), Int.toNat_natCast, hk, if_false]
        rw [if_pos (by omega)]
    · left
      simp only [textR, if_true, hl, if_false]

theorem pre_ints {x : List Int} {rest : List UInt8} {s : RS} (hx : x.length ≤ 65535) (hr : ∀ y ∈ x, Rng y) (h : Pre (intsL x ++ rest) s) : Pre rest (intsR s).2 := by
  rcases h with h | ⟨h0, t, h1, h2⟩
  · rw [ints_keep h]
    exact .inl h
  · obtain ⟨b, e⟩ := s
    simp only at h0 h2
    subst h0
    have et : intsL x = be 2 (x.length : Int) ++ x.flatMap (be 8) := by unfold intsL; rw [List.take_of_length_le hx]
    rw [et, List.append_assoc] at h2
    by_cases hl : 2 ≤ b.length
    · obtain ⟨g1, g2⟩ := pre_split h2 (by rw [be_len]; exact hl)
      rw [be_len] at g1 g2
      generalize b.drop 2 = b1 at g1 g2
      by_cases hk : (x.flatMap (be 8)).length ≤ b1.length
      · obtain ⟨g3, g4⟩ := pre_split g2 hk
        have e3 : b = intsL x ++ b1.drop (x.flatMap (be 8)).length := by rw [g1, et, List.append_assoc, ← g3]
        rw [e3, intsR_w x _ hx hr]
        exact .inr ⟨rfl, t, h1, g4⟩
      · left
        have hg := goI_none x.length b1 (by rw [flat8_len] at hk; omega)
        rw [g1]
        simp only [intsR, if_true, List.length_append, be_len, two_take, two_drop, num_be2 x.length (by omega), Int.toNat_natCast]
        rw [if_pos (by omega)]
        cases hq : goI x.length b1 with
        | mk a r =>
          rw [hq] at hg
          simp only at hg
          subst hg
          rfl
    · left
      simp only [intsR, if_true, hl, if_false]

theorem ask1_keep {s : RS} (h : s.e = 8) : (ask1 s).2 = s := by simp only [ask1, int_keep h]
theorem asksN_keep : ∀ (n : Nat) {s : RS} (h : s.e = 8), (asksN n s).2 = s
  | 0, s, h => rfl
  | n + 1, s, h => by
    have h1 := ask1_keep h
    show (asksN n (ask1 s).2).2 = s
    rw [h1]
    exact asksN_keep n h

theorem pre_ask1 {a : Ask} (h : a.Rg) {rest : List UInt8} {s : RS} (hp : Pre (ints (askI a) ++ rest) s) : Pre rest (ask1 s).2 := by
  obtain ⟨h1, h2, h3, h4, h5, h6, h7⟩ := h
  simp only [askI, ints_cons, ints_nil] at hp
  exact (pre_int h7 (pre_int h6 (pre_int h5 (pre_int h4 (pre_int h3 (pre_int h2 (pre_int h1 hp).1).1).1).1).1).1).1

theorem pre_asksN : ∀ (l : List Ask) (h : ∀ a ∈ l, a.Rg) {rest : List UInt8} {s : RS} (hp : Pre ((l.flatMap fun a => ints (askI a)) ++ rest) s), Pre rest (asksN l.length s).2
  | [], _, rest, s, hp => hp
  | a :: l, h, rest, s, hp => by
    rw [List.flatMap_cons, List.append_assoc] at hp
    exact pre_asksN l (fun b hb => h b (List.mem_cons_of_mem _ hb)) (pre_ask1 (h a List.mem_cons_self) hp)

theorem pre_asks {l : List Ask} (h : ∀ a ∈ l, a.Rg) (hl : l.length ≤ 20) {rest : List UInt8} {s : RS} (hp : Pre (be 8 (l.length : Int) ++ ((l.flatMap fun a => ints (askI a)) ++ rest)) s) : Pre rest (asksR s).2 := by
  obtain ⟨h1, h2 | h2⟩ := pre_int (x := (l.length : Int)) ⟨by omega, by omega⟩ hp
  · left
    unfold asksR
    rw [h2.2, if_neg (by omega)]
    show (asksN 0 (intR s).2).2.e = 8
    exact h2.1
  · unfold asksR
    rw [h2.2, if_neg (by omega), Int.toNat_natCast]
    exact pre_asksN l h h1

theorem parsB_pre (g : Inp) (hr : g.Rg) (h4 : g.kind = 1 → g.text.length ≤ 65535) (h5 : g.kind = 4 → g.aQ.length ≤ 65535) (h6 : g.kind = 5 → g.asks.length ≤ 20) (h7 : g.kind = 3 ∨ g.kind = 5 → g.ids.length ≤ 65535) {s : RS} (hp : Pre (body g ++ []) s) : (parsB g.kind s).2.e = 8 := by
  apply pre_nil
  by_cases k1 : g.kind = 1
  · have e1 : body g = textL g.text := by unfold body; rw [if_pos k1]
    rw [e1] at hp
    unfold parsB
    rw [if_pos k1]
    exact pre_text (h4 k1) hp
  by_cases k2 : g.kind = 2
  · have e1 : body g = ints [g.nId, g.nLab, g.nRack, g.nMem, g.nCor] := by unfold body; rw [if_neg k1, if_pos k2]
    rw [e1] at hp
    simp only [ints_cons, ints_nil] at hp
    unfold parsB
    rw [if_neg k1, if_pos k2]
    exact (pre_int hr.nCor (pre_int hr.nMem (pre_int hr.nRack (pre_int hr.nLab (pre_int hr.nId hp).1).1).1).1).1
  by_cases k3 : g.kind = 3
  · have e1 : body g = ints [g.id, g.beat] ++ intsL g.ids := by unfold body; rw [if_neg k1, if_neg k2, if_pos k3]
    rw [e1] at hp
    simp only [List.append_assoc, ints_cons, ints_nil] at hp
    unfold parsB
    rw [if_neg k1, if_neg k2, if_pos k3]
    exact pre_ints (h7 (.inl k3)) hr.ids (pre_int hr.beat (pre_int hr.id hp).1).1
  by_cases k4 : g.kind = 4
  · have e1 : body g = ints [g.aId] ++ textL g.aQ ++ ints [g.aUser, g.aPrio, g.aMem, g.aCor] := by unfold body; rw [if_neg k1, if_neg k2, if_neg k3, if_pos k4]
    rw [e1] at hp
    simp only [List.append_assoc, ints_cons, ints_nil] at hp
    unfold parsB
    rw [if_neg k1, if_neg k2, if_neg k3, if_pos k4]
    exact (pre_int hr.aCor (pre_int hr.aMem (pre_int hr.aPrio (pre_int hr.aUser (pre_text (h5 k4) (pre_int hr.aId hp).1)).1).1).1).1
  by_cases k5 : g.kind = 5
  · have e1 : body g = ints [g.id, g.beat, g.asks.length] ++ g.asks.flatMap (fun a => ints (askI a)) ++ intsL g.ids := by unfold body; rw [if_neg k1, if_neg k2, if_neg k3, if_neg k4, if_pos k5]; rfl
    rw [e1] at hp
    simp only [List.append_assoc, ints_cons, ints_nil] at hp
    unfold parsB
    rw [if_neg k1, if_neg k2, if_neg k3, if_neg k4, if_pos k5]
    exact pre_ints (h7 (.inr k5)) hr.ids (pre_asks hr.asks (h6 k5) (pre_int hr.beat (pre_int hr.id hp).1).1)
  by_cases k6 : g.kind = 6 ∨ g.kind = 7 ∨ g.kind = 10
  · have e1 : body g = ints [g.id] := by unfold body; rw [if_neg k1, if_neg k2, if_neg k3, if_neg k4, if_neg k5, if_pos k6]
    rw [e1] at hp
    simp only [ints_cons, ints_nil] at hp
    unfold parsB
    rw [if_neg k1, if_neg k2, if_neg k3, if_neg k4, if_neg k5, if_pos k6]
    exact (pre_int hr.id hp).1
  by_cases k8 : g.kind = 8
  · have e1 : body g = ints [g.n] := by unfold body; rw [if_neg k1, if_neg k2, if_neg k3, if_neg k4, if_neg k5, if_neg k6, if_pos k8]
    rw [e1] at hp
    simp only [ints_cons, ints_nil] at hp
    unfold parsB
    rw [if_neg k1, if_neg k2, if_neg k3, if_neg k4, if_neg k5, if_neg k6, if_pos k8]
    exact (pre_int hr.n hp).1
  by_cases k9 : g.kind = 9
  · have e1 : body g = ints [g.pId, g.pLab, g.pFrom, g.pUntil, g.pMem, g.pCor, g.n] := by unfold body; rw [if_neg k1, if_neg k2, if_neg k3, if_neg k4, if_neg k5, if_neg k6, if_neg k8, if_pos k9]
    rw [e1] at hp
    simp only [ints_cons, ints_nil] at hp
    unfold parsB
    rw [if_neg k1, if_neg k2, if_neg k3, if_neg k4, if_neg k5, if_neg k6, if_neg k8, if_pos k9]
    exact (pre_int hr.n (pre_int hr.pCor (pre_int hr.pMem (pre_int hr.pUntil (pre_int hr.pFrom (pre_int hr.pLab (pre_int hr.pId hp).1).1).1).1).1).1).1
  have e1 : body g = [] := by unfold body; rw [if_neg k1, if_neg k2, if_neg k3, if_neg k4, if_neg k5, if_neg k6, if_neg k8, if_neg k9]
  rw [e1] at hp
  unfold parsB
  rw [if_neg k1, if_neg k2, if_neg k3, if_neg k4, if_neg k5, if_neg k6, if_neg k8, if_neg k9]
  exact hp

theorem parse_cut {g : Inp} (h : wrongI g = 0) (hr : g.Rg) (k : Nat) (hk : k < (enc g).length) : parse ((enc g).take k) = (zInp 0, 8) := by
  obtain ⟨h1, h2, h3, h4, h5, h6⟩ := wrongI_zero h
  have hp : Pre (be 8 g.kind ++ (body g ++ [])) ⟨(enc g).take k, 0⟩ := by
    rw [← enc_cons g []]
    refine .inr ⟨rfl, (enc g).drop k, fun e => ?_, by rw [List.append_nil]; exact List.take_append_drop k _⟩
    have := congrArg List.length e
    rw [List.length_drop, List.length_nil] at this
    omega
  have he : (pars ⟨(enc g).take k, 0⟩).2.e = 8 := by
    unfold pars
    obtain ⟨a1, a2 | a2⟩ := pre_int (x := g.kind) ⟨by omega, by omega⟩ hp
    · rw [a2.2, if_pos (by omega)]
      have : failR (intR ⟨(enc g).take k, 0⟩).2 3 = (intR ⟨(enc g).take k, 0⟩).2 := by
        unfold failR
        rw [if_neg (by omega)]
      rw [this]
      unfold parsB
      exact a2.1
    · rw [a2.2, if_neg (by omega)]
      exact parsB_pre g hr (fun k => by have := h3 k; omega) (fun k => by have := h4 k; omega) (fun k => (h5 k).1) (fun k => by rcases k with k | k; exact Nat.le_trans (h6 k) (by omega); exact Nat.le_trans (h5 k).2 (by omega)) a1
  unfold parse done
  have : endE (pars ⟨(enc g).take k, 0⟩).2 = 8 := by unfold endE; rw [if_neg (by omega), he]
  rw [this]
  rfl

theorem parse_more {g : Inp} (h : wrongI g = 0) (hr : g.Rg) (x : UInt8) : parse (enc g ++ [x]) = (zInp 0, 9) := by
  unfold parse
  rw [pars_w h hr [x]]
  rfl
end Go.Proofs.Ytgpipheibnlkhaa
