/- What functions of the program compute. No condition. -/
import Derived.Test.YtceifhcjbmodaaaP13
set_option linter.unusedSimpArgs false
set_option linter.unusedVariables false
namespace Go.Proofs.Ytceifhcjbmodaaa
open Go Go.Ab

/-! ### Many: what the lists are -/
def appAt (L : Nat → Bool) (i : Nat) : App := if L i then newA 0 (askA (10 + (i : Int))) else deadA 4 (newA 0 (askA (10 + (i : Int))))
def mkL (m : Nat) (L : Nat → Bool) : List App := (List.range m).map (appAt L)
def MS (l : List App) : Sta := ⟨[[]], [q0], [], l, [], [], [], 0, 0, 0⟩
def allL : Nat → Bool := fun _ => true
def cntL : Nat → (Nat → Bool) → Nat
  | 0, _ => 0
  | m + 1, L => cntL m L + (if L m then 1 else 0)
theorem appAt_id (L : Nat → Bool) (i : Nat) : (appAt L i).id = 10 + (i : Int) := by
  unfold appAt
  split <;> rfl
theorem appAt_live (L : Nat → Bool) (i : Nat) : liveP (appAt L i) = L i := by
  unfold appAt
  cases h : L i <;> simp [deadA, newA, liveP]
theorem appAt_ok (L : Nat → Bool) (i : Nat) : AOk (appAt L i) := by
  unfold appAt
  split
  · exact newOk _ _
  · constructor <;> simp [deadA]
theorem mkL_len (m : Nat) (L : Nat → Bool) : (mkL m L).length = m := by simp [mkL]
theorem mkL_get {m : Nat} {L : Nat → Bool} {i : Nat} (h : i < (mkL m L).length) : (mkL m L)[i] = appAt L i := by simp [mkL]
theorem mkL_mem {m : Nat} {L : Nat → Bool} {a : App} (h : a ∈ mkL m L) : ∃ i, i < m ∧ a = appAt L i := by
  obtain ⟨i, hi, rfl⟩ := List.mem_map.1 h
  exact ⟨i, List.mem_range.1 hi, rfl⟩
theorem mkL_idx {m : Nat} (L : Nat → Bool) {j : Nat} (h : j < m) : idxI (idP (10 + (j : Int))) (mkL m L) = (j : Int) := by
  refine idx_at (by rw [mkL_len]; exact h) (fun i hi => ?_) ?_
  · rw [mkL_get, idP, appAt_id, beq_eq_false_iff_ne]
    omega
  · rw [mkL_get, idP, appAt_id, beq_self_eq_true]
theorem mkL_no {m : Nat} (L : Nat → Bool) {id : Int} (h : id < 10 ∨ 10 + (m : Int) ≤ id) : idxI (idP id) (mkL m L) = -1 := by
  refine idx_no fun i hi => ?_
  rw [mkL_len] at hi
  rw [mkL_get, idP, appAt_id, beq_eq_false_iff_ne]
  omega
theorem mkL_many (L : Nat → Bool) : ∀ m, manyN (mkL m L) = cntL m L
  | 0 => rfl
  | m + 1 => by
    have ih := mkL_many L m
    unfold manyN mkL at ih ⊢
    rw [List.range_succ, List.map_append, List.filter_append, List.length_append, ih, cntL]
    congr 1
    rw [List.map_cons, List.map_nil, List.filter_cons, appAt_live]
    split <;> rfl
theorem cntL_le (L : Nat → Bool) : ∀ m, cntL m L ≤ m
  | 0 => Nat.le_refl _
  | m + 1 => by
    have := cntL_le L m
    unfold cntL
    split <;> omega
theorem cntL_all : ∀ m, cntL m allL = m
  | 0 => rfl
  | m + 1 => by rw [cntL, cntL_all m]; rfl
theorem cntL_full (L : Nat → Bool) : ∀ m, cntL m L = m → ∀ i, i < m → L i = true
  | 0, _, i, hi => by omega
  | m + 1, h, i, hi => by
    have := cntL_le L m
    unfold cntL at h
    have hm : L m = true := by
      cases hm : L m
      · rw [hm] at h; simp at h; omega
      · rfl
    rw [hm] at h
    simp at h
    by_cases he : i = m
    · rw [he]; exact hm
    · exact cntL_full L m h i (by omega)
theorem cntL_of (L : Nat → Bool) : ∀ m, (∀ i, i < m → L i = true) → cntL m L = m
  | 0, _ => rfl
  | m + 1, h => by rw [cntL, cntL_of L m fun i hi => h i (by omega), h m (by omega)]; rfl
def offL (L : Nat → Bool) (j : Nat) : Nat → Bool := fun i => if i = j then false else L i
theorem cntL_off_ge (L : Nat → Bool) (j : Nat) : ∀ m, m ≤ j → cntL m (offL L j) = cntL m L
  | 0, _ => rfl
  | m + 1, h => by
    rw [cntL, cntL, cntL_off_ge L j m (by omega)]
    have : offL L j m = L m := by unfold offL; rw [if_neg (by omega)]
    rw [this]
theorem cntL_off (L : Nat → Bool) (j : Nat) (hj : L j = true) : ∀ m, j < m → cntL m (offL L j) + 1 = cntL m L
  | 0, h => by omega
  | m + 1, h => by
    rw [cntL, cntL]
    by_cases he : j = m
    · subst he
      rw [cntL_off_ge L j j (Nat.le_refl _), hj]
      simp [offL]
    · have ih := cntL_off L j hj m (by omega)
      have : offL L j m = L m := by unfold offL; rw [if_neg (by omega)]
      rw [this]
      omega
theorem mkL_set {m : Nat} (L : Nat → Bool) {j : Nat} (h : j < m) (hL : L j = true) : (mkL m L).set j (deadA 4 (appAt L j)) = mkL m (offL L j) := by
  apply List.ext_getElem
  · simp [mkL_len]
  intro i h1 h2
  rw [List.getElem_set, mkL_get h2]
  split
  · next he =>
    subst he
    unfold appAt offL
    rw [if_pos hL, if_pos rfl, if_neg (by simp)]
  · next he =>
    rw [mkL_get]
    have : offL L j i = L i := by unfold offL; rw [if_neg (fun e => he e.symm)]
    unfold appAt
    rw [this]
theorem MS_ok {l : List App} (h1 : l.length ≤ 16) (h2 : ∀ a ∈ l, AOk a) : SOk (MS l) := by
  constructor <;> simp [MS, q0]
  · omega
  · constructor <;> simp
  · exact h2
theorem mkL_ok {m : Nat} (h : m ≤ 16) (L : Nat → Bool) : SOk (MS (mkL m L)) := MS_ok (by rw [mkL_len]; exact h) fun a ha => by
  obtain ⟨i, _, rfl⟩ := mkL_mem ha
  exact appAt_ok L i
theorem put_new {l : List App} {id : Int} (h : ∀ a ∈ l, a.id < id) : putL (newA 0 (askA id)) l = l ++ [newA 0 (askA id)] := by
  have e : (newA 0 (askA id)).id = id := rfl
  have h1 : idxI (idP id) l = -1 := idx_no fun i hi => by
    rw [idP, beq_eq_false_iff_ne]
    have := h _ (List.getElem_mem hi)
    omega
  have h2 := insK_at (p := id) (m := l) (i := l.length) (Nat.le_refl _) (fun j hj h2 => h _ (List.getElem_mem h2)) (.inl rfl)
  unfold putL insL
  simp only [e, h1, h2]
  rw [if_neg (by omega), List.take_length, List.drop_length]
/-- A submit, as the law makes them. -/
theorem sub_ok {l : List App} {id : Int} (h : ∀ a ∈ l, a.id < id) : submitF (MS l) (askA id) = if 16 ≤ manyN l then (MS l, 4) else (MS (makeRoom l ++ [newA 0 (askA id)]), 0) := by
  have h1 : idxI (idP id) l = -1 := idx_no fun i hi => by
    rw [idP, beq_eq_false_iff_ne]
    have := h _ (List.getElem_mem hi)
    omega
  have h2 : idxI (idP (askA id).id) (MS l).apps = -1 := h1
  unfold submitF
  rw [h2, if_neg (by omega)]
  have h3 : (MS l).apps = l := rfl
  rw [h3]
  split
  · rfl
  have h4 : leafP (askA id).queue (MS l).qs = true := leaf0
  rw [h4, if_neg (by simp)]
  have hr : ∀ a ∈ makeRoom l, a.id < id := by
    intro a ha
    unfold makeRoom delK at ha
    simp only at ha
    split at ha
    · rcases List.mem_append.1 ha with ha | ha
      · exact h a (List.mem_of_mem_take ha)
      · exact h a (List.mem_of_mem_drop ha)
    · exact h a ha
  have h5 : (MS l).now = 0 := rfl
  rw [h5, put_new hr]
  rfl
theorem mkL_lt {m : Nat} (L : Nat → Bool) {id : Int} (h : 10 + (m : Int) ≤ id) : ∀ a ∈ mkL m L, a.id < id := fun a ha => by
  obtain ⟨i, hi, rfl⟩ := mkL_mem ha
  rw [appAt_id]
  omega
theorem sub_low {k : Nat} (h : k < 16) : submitF (MS (mkL k allL)) (askA (10 + (k : Int))) = (MS (mkL (k + 1) allL), 0) := by
  rw [sub_ok (mkL_lt _ (by omega)), mkL_many, cntL_all, if_neg (by omega)]
  have h1 : makeRoom (mkL k allL) = mkL k allL := by
    unfold makeRoom
    simp only
    rw [if_neg (by rw [mkL_len]; omega)]
  rw [h1]
  have h2 : mkL (k + 1) allL = mkL k allL ++ [newA 0 (askA (10 + (k : Int)))] := by
    unfold mkL
    rw [List.range_succ, List.map_append]
    rfl
  rw [h2]
theorem sub_high {k : Nat} (h : 16 ≤ k) : submitF (MS (mkL 16 allL)) (askA (10 + (k : Int))) = (MS (mkL 16 allL), 4) := by
  rw [sub_ok (mkL_lt _ (by omega)), mkL_many, cntL_all, if_pos (by omega)]
theorem end_at {m : Nat} (L : Nat → Bool) {j : Nat} (h : j < m) (hL : L j = true) : endF (MS (mkL m L)) (10 + (j : Int)) 4 = MS (mkL m (offL L j)) := by
  have h3 : (MS (mkL m L)).apps = mkL m L := rfl
  have hg : (mkL m L).getD j default = appAt L j := by
    have : j < (mkL m L).length := by rw [mkL_len]; exact h
    rw [List.getD_eq_getElem?_getD, List.getElem?_eq_getElem this, Option.getD_some, mkL_get]
  unfold endF
  simp only [h3, mkL_idx L h, Int.toNat_natCast, hg, appAt_live, hL]
  rw [if_pos ⟨by omega, trivial⟩, mkL_set L h hL]
  rfl
/-- The least of those that are over. -/
def LowI (m : Nat) (L : Nat → Bool) (low : Int) : Prop := (low = 0 ∧ ∀ i, i < m → L i = true) ∨ ∃ d : Nat, d < m ∧ low = 10 + (d : Int) ∧ L d = false ∧ ∀ i, i < d → L i = true
theorem low_new {m : Nat} {L : Nat → Bool} {low : Int} (h : LowI m L low) {w : Nat} (hw : w < m) (hL : L w = true) : LowI m (offL L w) (if low = 0 ∨ 10 + (w : Int) < low then 10 + (w : Int) else low) := by
  rcases h with ⟨rfl, ha⟩ | ⟨d, hd, rfl, hf, ha⟩
  · rw [if_pos (.inl rfl)]
    exact .inr ⟨w, hw, rfl, by simp [offL], fun i hi => by unfold offL; rw [if_neg (by omega)]; exact ha i (by omega)⟩
  · have hne : w ≠ d := fun e => by subst e; rw [hL] at hf; cases hf
    by_cases hlt : w < d
    · rw [if_pos (.inr (by omega))]
      exact .inr ⟨w, hw, rfl, by simp [offL], fun i hi => by unfold offL; rw [if_neg (by omega)]; exact ha i (by omega)⟩
    · rw [if_neg (by omega)]
      exact .inr ⟨d, hd, rfl, by unfold offL; rw [if_neg (by omega)]; exact hf, fun i hi => by unfold offL; rw [if_neg (by omega)]; exact ha i hi⟩
end Go.Proofs.Ytceifhcjbmodaaa
