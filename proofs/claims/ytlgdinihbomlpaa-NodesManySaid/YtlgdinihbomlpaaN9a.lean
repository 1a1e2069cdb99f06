/- What functions of the program compute. No condition. -/
import Derived.Test.YtlgdinihbomlpaaN7
set_option linter.unusedSimpArgs false
set_option linter.unusedVariables false
namespace Go.Proofs.Ytlgdinihbomlpaa
open Go Go.Ab

def updB (f : Nat → Bool) (p : Nat) : Nat → Bool := fun i => if i = p then true else f i
def seenC (f : Nat → Bool) : List AV := [.bool (f 0), .bool (f 1), .bool (f 2), .bool (f 3), .bool (f 4), .bool (f 5), .bool (f 6), .bool (f 7), .bool (f 8), .bool (f 9), .bool (f 10), .bool (f 11), .bool (f 12), .bool (f 13), .bool (f 14), .bool (f 15), .bool (f 16), .bool (f 17), .bool (f 18), .bool (f 19)]
theorem seen_len {f : Nat → Bool} : (seenC f).length = 20 := rfl
theorem seen_one {f : Nat → Bool} : (seenC f).all AV.one = true := rfl
theorem seen_ok {f : Nat → Bool} : (seenC f).all AV.ok = true := rfl
theorem seen_ro {f : Nat → Bool} {ρ : Nat → Option Nat} : AV.roL ρ (seenC f) = seenC f := rfl
theorem seen_bo {f : Nat → Bool} {ρ : Nat → Option Nat} {n : Nat} : AV.boL ρ n (seenC f) = true := rfl
attribute [simp] seen_ro seen_bo
theorem p20 {p : Nat} (h : p < 20) : p = 0 ∨ p = 1 ∨ p = 2 ∨ p = 3 ∨ p = 4 ∨ p = 5 ∨ p = 6 ∨ p = 7 ∨ p = 8 ∨ p = 9 ∨ p = 10 ∨ p = 11 ∨ p = 12 ∨ p = 13 ∨ p = 14 ∨ p = 15 ∨ p = 16 ∨ p = 17 ∨ p = 18 ∨ p = 19 := by omega
theorem seen_at (f : Nat → Bool) (p : Nat) (h : p < 20) : partOf (seenC f) p 1 false = .bool (f p) := by
  rcases p20 h with rfl | rfl | rfl | rfl | rfl | rfl | rfl | rfl | rfl | rfl | rfl | rfl | rfl | rfl | rfl | rfl | rfl | rfl | rfl | rfl <;> rfl
theorem seen_set (f : Nat → Bool) (p : Nat) (h : p < 20) : (seenC f).take p ++ AV.bool true :: (seenC f).drop (p + 1) = seenC (updB f p) := by
  rcases p20 h with rfl | rfl | rfl | rfl | rfl | rfl | rfl | rfl | rfl | rfl | rfl | rfl | rfl | rfl | rfl | rfl | rfl | rfl | rfl | rfl <;> rfl
theorem seen_setA (f : Nat → Bool) (p : Nat) (h : p < 20) : (seenC f).take p ++ [AV.bool true] ++ (seenC f).drop (p + 1) = seenC (updB f p) := by
  rcases p20 h with rfl | rfl | rfl | rfl | rfl | rfl | rfl | rfl | rfl | rfl | rfl | rfl | rfl | rfl | rfl | rfl | rfl | rfl | rfl | rfl <;> rfl
set_option linter.defProp false in
def seenS := ai @seen_len (ai @seen_one (ai @seen_ok (ai @seen_ro @seen_bo)))
def NV (l : List Node) : AV := if l = [] then .nils else .sl false 8 (l.map NODE)
theorem nv_nil : NV [] = .nils := rfl
theorem nv_ne {l : List Node} (h : l ≠ []) : NV l = .sl false 8 (l.map NODE) := if_neg h
theorem reg_all (l : List Node) (hl1 : l.length ≤ 2 ^ 40) (now : Int) (n : Node) (hn : OkN n) : PCall Try.prog 10 [.agg (stC (.sl false 3 ([q0].map QUE)) (NV l) now), NODE n] (.tup [.agg (stC (.sl false 3 ([q0].map QUE)) (NV (regF now n l).1) now), .int .i64 (regF now n l).2]) := by
  by_cases h : l = []
  · subst h
    exact reg_nil false [q0] qC0 now n hn
  · rw [nv_ne h]
    have : (regF now n l).1 ≠ [] := by
      unfold regF
      simp only
      split
      · exact h
      · split
        · exact h
        · split
          · simpa using h
          · simp [insL]
    rw [nv_ne this]
    exact reg_ok false false [q0] qC0 l h hl1 now n hn
def mkN (k : Int) : Node := ⟨k, 0, 0, k, 0, 0, 0, true⟩
structure Inv (l : List Node) (f : Nat → Bool) : Prop where
  so : l.Pairwise (fun x y => x.id < y.id)
  al : ∀ x ∈ l, x = mkN x.id ∧ 0 ≤ x.id ∧ x.id < 20
  sf : ∀ k : Nat, k < 20 → f k = l.any (idP k)
  le : l.length ≤ 12
theorem Inv.nil : Inv [] (fun _ => false) := ⟨.nil, by simp, by simp, by simp⟩
theorem mem_ins {k : Nat} {a x : Node} {m : List Node} : x ∈ insL k a m ↔ x = a ∨ x ∈ m := by
  unfold insL
  rw [List.mem_append, List.mem_cons]
  have : x ∈ m ↔ x ∈ m.take k ∨ x ∈ m.drop k := by rw [← List.mem_append, List.take_append_drop]
  rw [this]
  constructor
  · rintro (h | h | h) <;> simp [h]
  · rintro (h | h | h) <;> simp [h]
theorem ins_so (a : Node) : ∀ (m : List Node), m.Pairwise (fun x y => x.id < y.id) → (∀ x ∈ m, x.id ≠ a.id) → (insL (insK a.id m) a m).Pairwise (fun x y => x.id < y.id)
  | [], _, _ => by simp [insL, insK]
  | y :: m, h, hn => by
    by_cases hy : y.id < a.id
    · have ih := ins_so a m (List.Pairwise.of_cons h) fun x hx => hn x (List.mem_cons_of_mem _ hx)
      have e : insK a.id (y :: m) = insK a.id m + 1 := by unfold insK; rw [List.findIdx_cons]; simp [hy]
      have e2 : insL (insK a.id m + 1) a (y :: m) = y :: insL (insK a.id m) a m := by simp [insL]
      rw [e, e2]
      refine List.pairwise_cons.2 ⟨fun x hx => ?_, ih⟩
      rcases mem_ins.1 hx with rfl | hx
      · exact hy
      · exact (List.pairwise_cons.1 h).1 x hx
    · have e : insK a.id (y :: m) = 0 := by unfold insK; rw [List.findIdx_cons]; simp [hy]
      have h1 := hn y List.mem_cons_self
      rw [e]
      show (a :: y :: m).Pairwise _
      refine List.pairwise_cons.2 ⟨fun x hx => ?_, h⟩
      rcases List.mem_cons.1 hx with rfl | hx
      · omega
      · have := (List.pairwise_cons.1 h).1 x hx
        omega
theorem any_ins (p : Int) (k : Nat) (a : Node) (m : List Node) : (insL k a m).any (idP p) = (idP p a || m.any (idP p)) := by
  rw [Bool.eq_iff_iff, Bool.or_eq_true, List.any_eq_true, List.any_eq_true]
  constructor
  · rintro ⟨x, hx, hp⟩
    rcases mem_ins.1 hx with rfl | hx
    · exact .inl hp
    · exact .inr ⟨x, hx, hp⟩
  · rintro (h | ⟨x, hx, hp⟩)
    · exact ⟨a, mem_ins.2 (.inl rfl), h⟩
    · exact ⟨x, mem_ins.2 (.inr hx), hp⟩
/-- What a step brings. -/
theorem step_reg {l : List Node} {f : Nat → Bool} (inv : Inv l f) (k : Int) (h0 : 0 ≤ k) (h1 : k < 20) :
    (f k.toNat = true ∧ regF 0 ⟨k, 0, 0, k, 0, 0, 0, false⟩ l = (l, 7)) ∨ (f k.toNat = false ∧ 12 ≤ l.length ∧ regF 0 ⟨k, 0, 0, k, 0, 0, 0, false⟩ l = (l, 4)) ∨
    (f k.toNat = false ∧ l.length < 12 ∧ ∃ b, regF 0 ⟨k, 0, 0, k, 0, 0, 0, false⟩ l = (b, 0) ∧ b.length = l.length + 1 ∧ Inv b (updB f k.toNat)) := by
  have hk : ((k.toNat : Nat) : Int) = k := by omega
  have hf := inv.sf k.toNat (by omega)
  rw [hk] at hf
  unfold regF
  simp only
  rcases idx_cases (idP k) l with ⟨e1, e2⟩ | ⟨i, hi, e1, e2, e3⟩
  · rw [e1]
    have hf0 : f k.toNat = false := by
      rw [hf, List.any_eq_false]
      intro x hx
      rw [e2 x hx]
      simp
    rw [if_neg (by omega)]
    by_cases hl : 12 ≤ l.length
    · rw [if_pos ⟨by omega, hl⟩]
      exact .inr (.inl ⟨hf0, hl, rfl⟩)
    · rw [if_neg (by omega), if_neg (by omega)]
      refine .inr (.inr ⟨hf0, by omega, _, rfl, by simp [insL]; omega, ?_⟩)
      have hne : ∀ x ∈ l, x.id ≠ k := fun x hx he => by
        have := e2 x hx
        simp [idP, he] at this
      have hmk : newN 0 ⟨k, 0, 0, k, 0, 0, 0, false⟩ = mkN k := rfl
      rw [hmk]
      refine ⟨ins_so (mkN k) l inv.so hne, fun x hx => ?_, fun p hp => ?_, by simp [insL]; omega⟩
      · rcases mem_ins.1 hx with rfl | hx
        · exact ⟨rfl, h0, h1⟩
        · exact inv.al x hx
      · rw [any_ins, ← inv.sf p hp]
        unfold updB
        by_cases hpk : p = k.toNat
        · subst hpk
          simp [idP, mkN, hk]
        · rw [if_neg hpk]
          have : (idP (p : Int) (mkN k)) = false := by simp [idP, mkN]; omega
          rw [this, Bool.false_or]
  · rw [e1]
    have hm := inv.al _ (List.getElem_mem hi)
    have hu : l[i].up = true := by rw [hm.1]; rfl
    refine .inl ⟨?_, ?_⟩
    · rw [hf, List.any_eq_true]
      exact ⟨_, List.getElem_mem hi, e2⟩
    · rw [if_pos ⟨by omega, by simp [hi, hu]⟩]
end Go.Proofs.Ytlgdinihbomlpaa
