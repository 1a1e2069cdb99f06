/- What functions of the program compute. No condition. -/
import Derived.Test.YtglimfdofgadjaaA8
set_option linter.unusedSimpArgs false
set_option linter.unusedVariables false
namespace Go.Proofs.Ytglimfdofgadjaa
open Go Go.Ab

structure Gd (a : Ask) : Prop where
  p0 : 0 ≤ a.prio
  p9 : a.prio ≤ 9
  l0 : 0 ≤ a.label
  l1 : a.label ≤ 1
  m1 : 1 ≤ a.mem
  m2 : a.mem ≤ 2 ^ 30
  c1 : 1 ≤ a.cores
  c2 : a.cores ≤ 2 ^ 30
  n0 : 0 ≤ a.count
  n5 : a.count ≤ 5
  s0 : 0 ≤ a.missed
  s9 : a.missed ≤ 100
theorem gd_good (a : Ask) : Gd (goodA a) := by
  have w1 := win_rng a.prio 10 (by omega)
  have w2 := win_rng a.label 2 (by omega)
  have w3 := win_rng a.mem 1073741824 (by omega)
  have w4 := win_rng a.cores 1073741824 (by omega)
  have w5 := win_rng a.count 6 (by omega)
  have w8 := win_rng a.missed 101 (by omega)
  constructor <;> (unfold goodA; simp only; omega)
theorem Gd.rng {a : Ask} (h : Gd a) : Rng a := by
  obtain ⟨h1, h2, h3, h4, h5, h6, h7, h8, h9, h10, h11, h12⟩ := h
  constructor <;> omega
structure Inv (l : List Ask) : Prop where
  so : l.Pairwise (fun x y => x.prio < y.prio)
  gd : ∀ x ∈ l, Gd x ∧ x.count ≠ 0
  le : l.length ≤ 8
theorem Inv.nil : Inv [] := ⟨.nil, by simp, by simp⟩
theorem Inv.rng {l : List Ask} (h : Inv l) : ∀ x ∈ l, Rng x := fun x hx => (h.gd x hx).1.rng
theorem mem_ins {k : Nat} {a x : Ask} {m : List Ask} : x ∈ insL k a m ↔ x = a ∨ x ∈ m := by
  unfold insL
  rw [List.mem_append, List.mem_cons]
  have : x ∈ m ↔ x ∈ m.take k ∨ x ∈ m.drop k := by rw [← List.mem_append, List.take_append_drop]
  rw [this]
  constructor
  · rintro (h | h | h) <;> simp [h]
  · rintro (h | h | h) <;> simp [h]
theorem ins_so (a : Ask) : ∀ (m : List Ask), m.Pairwise (fun x y => x.prio < y.prio) → (∀ x ∈ m, x.prio ≠ a.prio) → (insL (insK a.prio m) a m).Pairwise (fun x y => x.prio < y.prio)
  | [], _, _ => by simp [insL, insK]
  | y :: m, h, hn => by
    by_cases hy : y.prio < a.prio
    · have ih := ins_so a m (List.Pairwise.of_cons h) fun x hx => hn x (List.mem_cons_of_mem _ hx)
      have e : insK a.prio (y :: m) = insK a.prio m + 1 := by unfold insK; rw [List.findIdx_cons]; simp [hy]
      have e2 : insL (insK a.prio m + 1) a (y :: m) = y :: insL (insK a.prio m) a m := by simp [insL]
      rw [e, e2]
      refine List.pairwise_cons.2 ⟨fun x hx => ?_, ih⟩
      rcases mem_ins.1 hx with rfl | hx
      · exact hy
      · exact (List.pairwise_cons.1 h).1 x hx
    · have e : insK a.prio (y :: m) = 0 := by unfold insK; rw [List.findIdx_cons]; simp [hy]
      have h1 := hn y List.mem_cons_self
      rw [e]
      show (a :: y :: m).Pairwise _
      refine List.pairwise_cons.2 ⟨fun x hx => ?_, h⟩
      rcases List.mem_cons.1 hx with rfl | hx
      · omega
      · have := (List.pairwise_cons.1 h).1 x hx
        omega
theorem set_cases (a : Ask) (l : List Ask) :
    (setL a l = ([], 4) ∧ 8 ≤ (keepL a.prio l).length) ∨
    (a.count = 0 ∧ setL a l = (keepL a.prio l, 0)) ∨
    (a.count ≠ 0 ∧ (keepL a.prio l).length < 8 ∧ setL a l = (insL (insK a.prio (keepL a.prio l)) { a with missed := 0 } (keepL a.prio l), 0)) := by
  unfold setL
  simp only
  by_cases h1 : a.count = 0
  · simp [h1]
  · by_cases h2 : 8 ≤ (keepL a.prio l).length
    · simp [h1, h2]
    · simp [h1, h2]; omega
theorem keep_le (p : Int) (l : List Ask) : (keepL p l).length ≤ l.length := List.length_filter_le _ _
theorem mem_keep {p : Int} {l : List Ask} {x : Ask} : x ∈ keepL p l ↔ x ∈ l ∧ x.prio ≠ p := by
  unfold keepL
  rw [List.mem_filter]
  simp [prioP]
theorem set_mem {a : Ask} {l : List Ask} {x : Ask} (h : x ∈ (setL a l).1) : (x = { a with missed := 0 } ∧ a.count ≠ 0) ∨ (x ∈ l ∧ x.prio ≠ a.prio) := by
  rcases set_cases a l with ⟨e, _⟩ | ⟨_, e⟩ | ⟨hc, _, e⟩
  · rw [e] at h
    simp at h
  · rw [e] at h
    exact .inr (mem_keep.1 h)
  · rw [e] at h
    rcases mem_ins.1 h with h | h
    · exact .inl ⟨h, hc⟩
    · exact .inr (mem_keep.1 h)
theorem inv_set {a : Ask} {l : List Ask} (h : Inv l) (ha : Gd a) : Inv (setL a l).1 := by
  have hk : (keepL a.prio l).Pairwise (fun x y => x.prio < y.prio) := h.so.sublist List.filter_sublist
  refine ⟨?_, fun x hx => ?_, ?_⟩
  · rcases set_cases a l with ⟨e, _⟩ | ⟨_, e⟩ | ⟨hc, _, e⟩ <;> rw [e]
    · exact .nil
    · exact hk
    · exact ins_so { a with missed := 0 } _ hk fun x hx => (mem_keep.1 hx).2
  · rcases set_mem hx with ⟨rfl, hc⟩ | ⟨hx, _⟩
    · obtain ⟨h1, h2, h3, h4, h5, h6, h7, h8, h9, h10, h11, h12⟩ := ha
      exact ⟨⟨h1, h2, h3, h4, h5, h6, h7, h8, h9, h10, by simp, by simp⟩, hc⟩
    · exact h.gd x hx
  · have := keep_le a.prio l
    have := h.le
    rcases set_cases a l with ⟨e, _⟩ | ⟨_, e⟩ | ⟨hc, _, e⟩ <;> rw [e] <;> simp [insL] <;> omega
theorem set_err {a : Ask} {l : List Ask} (h : Inv l) : (setL a l).2 = 0 ∨ (setL a l = ([], 4) ∧ l.length = 8) := by
  have := keep_le a.prio l
  have := h.le
  rcases set_cases a l with ⟨e, _⟩ | ⟨_, e⟩ | ⟨hc, _, e⟩ <;> rw [e]
  · exact .inr ⟨rfl, by omega⟩
  · exact .inl rfl
  · exact .inl rfl
theorem so_ne {l : List Ask} (h : l.Pairwise (fun x y => x.prio < y.prio)) {i j : Nat} (hi : i < l.length) (hj : j < l.length) (hne : j ≠ i) : l[j].prio ≠ l[i].prio := by
  rw [List.pairwise_iff_getElem] at h
  rcases Nat.lt_or_gt_of_ne hne with hlt | hlt
  · have := h j i hj hi hlt; omega
  · have := h i j hi hj hlt; omega
theorem miss_eq {l : List Ask} (h : l.Pairwise (fun x y => x.prio < y.prio)) (p : Int) : missL p l = xmissL p l := by
  unfold missL xmissL
  rcases idx_cases (prioP p) l with ⟨h1, h2⟩ | ⟨i, hi, h1, h2, h3⟩
  · rw [h1, if_neg (by omega)]
    have : ∀ x ∈ l, mF p x = id x := fun x hx => by
      have := h2 x hx
      simp [prioP] at this
      simp [mF, this]
    rw [List.map_congr_left this, List.map_id]
  · rw [h1, if_pos (by omega)]
    simp only [Int.toNat_natCast]
    have hp : l[i].prio = p := by simpa [prioP] using h2
    apply List.ext_getElem
    · simp
    · intro j hj1 hj2
      rw [List.length_set] at hj1
      rw [List.getElem_set, List.getElem_map]
      by_cases hij : i = j
      · subst hij
        rw [if_pos rfl]
        simp [mF, hp, List.getD_eq_getElem?_getD, hi]
      · rw [if_neg hij]
        have := so_ne h hi hj1 (fun e => hij e.symm)
        simp [mF, hp ▸ this]
theorem fm_id {α : Type} (f : α → Option α) : ∀ l : List α, (∀ x ∈ l, f x = some x) → l.filterMap f = l
  | [], _ => rfl
  | x :: l, h => by rw [List.filterMap_cons, h x List.mem_cons_self, fm_id f l fun y hy => h y (List.mem_cons_of_mem _ hy)]
theorem take_eq {l : List Ask} (h : l.Pairwise (fun x y => x.prio < y.prio)) (p : Int) : takeL p l = xtakeL p l := by
  unfold takeL xtakeL
  rcases idx_cases (prioP p) l with ⟨h1, h2⟩ | ⟨i, hi, h1, h2, h3⟩
  · rw [h1, if_pos (by omega)]
    have e1 : l.filterMap (tkF p) = l := by
      have : ∀ x ∈ l, tkF p x = some x := fun x hx => by
        have := h2 x hx
        simp [prioP] at this
        simp [tkF, this]
      exact fm_id _ _ this
    have e2 : l.any (prioP p) = false := by
      rw [List.any_eq_false]
      intro x hx
      rw [h2 x hx]
      simp
    rw [e1, e2]
  · rw [h1, if_neg (by omega)]
    simp only [Int.toNat_natCast]
    have hp : l[i].prio = p := by simpa [prioP] using h2
    have hg : l.getD i default = l[i] := by simp [hi]
    have e2 : l.any (prioP p) = true := List.any_eq_true.2 ⟨_, List.getElem_mem hi, h2⟩
    have hl : l = l.take i ++ l[i] :: l.drop (i + 1) := by rw [← List.drop_eq_getElem_cons hi, List.take_append_drop]
    have same : ∀ m : List Ask, (∀ x ∈ m, x.prio ≠ p) → m.filterMap (tkF p) = m := fun m hm => by
      have : ∀ x ∈ m, tkF p x = some x := fun x hx => by simp [tkF, hm x hx]
      exact fm_id _ _ this
    have s1 := same (l.take i) fun x hx => by
      obtain ⟨j, hj, rfl⟩ := List.getElem_of_mem hx
      rw [List.length_take] at hj
      rw [List.getElem_take, ← hp]
      exact so_ne h hi (by omega) (by omega)
    have s2 := same (l.drop (i + 1)) fun x hx => by
      obtain ⟨j, hj, rfl⟩ := List.getElem_of_mem hx
      rw [List.length_drop] at hj
      rw [List.getElem_drop, ← hp]
      exact so_ne h hi (by omega) (by omega)
    have e1 : l.filterMap (tkF p) = l.take i ++ ((tkF p l[i]).toList ++ l.drop (i + 1)) := by
      conv => lhs; rw [hl]
      rw [List.filterMap_append, List.filterMap_cons, s1, s2]
      cases tkF p l[i] <;> rfl
    rw [e1, e2, hg]
    unfold tkF
    rw [if_pos hp]
    by_cases hc : l[i].count - 1 ≤ 0
    · rw [if_pos hc, if_pos hc]
      simp
    · rw [if_neg hc, if_neg hc]
      rw [List.set_eq_take_append_cons_drop, if_pos hi]
      simp
theorem inv_map {l : List Ask} (h : Inv l) (f : Ask → Ask) (hf : ∀ x ∈ l, (f x).prio = x.prio ∧ Gd (f x) ∧ (f x).count ≠ 0) : Inv (l.map f) := by
  refine ⟨?_, fun x hx => ?_, by simpa using h.le⟩
  · rw [List.pairwise_map]
    refine (List.Pairwise.imp_of_mem ?_ h.so)
    intro a b ha hb hab
    rw [(hf a ha).1, (hf b hb).1]
    exact hab
  · obtain ⟨y, hy, rfl⟩ := List.mem_map.1 hx
    exact (hf y hy).2
theorem inv_miss {l : List Ask} (h : Inv l) (p : Int) : Inv (xmissL p l) := by
  refine inv_map h _ fun x hx => ?_
  obtain ⟨⟨h1, h2, h3, h4, h5, h6, h7, h8, h9, h10, h11, h12⟩, hc⟩ := h.gd x hx
  unfold mF
  split
  · exact ⟨rfl, ⟨h1, h2, h3, h4, h5, h6, h7, h8, h9, h10, by simp only; omega, by simp only; omega⟩, hc⟩
  · exact ⟨rfl, ⟨h1, h2, h3, h4, h5, h6, h7, h8, h9, h10, h11, h12⟩, hc⟩
theorem tk_prio {p : Int} {x y : Ask} (h : y ∈ tkF p x) : y.prio = x.prio := by
  unfold tkF at h
  split at h
  · split at h
    · cases h
    · cases h; rfl
  · cases h; rfl
theorem inv_take {l : List Ask} (h : Inv l) (p : Int) : Inv (xtakeL p l).1 := by
  unfold xtakeL
  refine ⟨?_, fun x hx => ?_, Nat.le_trans (List.length_filterMap_le _ _) h.le⟩
  · refine h.so.filterMap _ ?_
    intro a a' haa b hb b' hb'
    rw [tk_prio hb, tk_prio hb']
    exact haa
  · obtain ⟨y, hy, hyx⟩ := List.mem_filterMap.1 hx
    have hg := h.gd y hy
    unfold tkF at hyx
    split at hyx
    · split at hyx
      · cases hyx
      · cases hyx
        obtain ⟨⟨h1, h2, h3, h4, h5, h6, h7, h8, h9, h10, h11, h12⟩, hc⟩ := hg
        exact ⟨⟨h1, h2, h3, h4, h5, h6, h7, h8, by simp only; omega, by simp only; omega, by simp, by simp⟩, by simp only; omega⟩
    · cases hyx
      exact hg
end Go.Proofs.Ytglimfdofgadjaa
