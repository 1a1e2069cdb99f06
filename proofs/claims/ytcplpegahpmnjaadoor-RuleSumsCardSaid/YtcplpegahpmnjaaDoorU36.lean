/- What functions of the program compute. No condition. -/
import Derived.Test.YtcplpegahpmnjaaDoorU35
import Derived.Test.YtcplpegahpmnjaaDoorU30
import Derived.Test.YtcplpegahpmnjaaDoorU12
import Derived.Test.YtcplpegahpmnjaaDoorU33
set_option linter.unusedSimpArgs false
set_option linter.unusedVariables false
namespace Go.Proofs.YtcplpegahpmnjaaDoor
open Go Go.Ab
def pathsP : Bool → List UInt8 → Cnt → List (List UInt8) → Int
  | _, _, _, [] => 0
  | fst, last, es, p :: r =>
    if isPathP p = false then 12
    else if (!fst && (Op.bytesLess p last || p == last)) = true then 7
    else if ((aboveP p).2 && decide (cntE (aboveP p).1 es = 0)) = true then 12
    else pathsP false p (incE p es) r
def pathsN : Bool → List UInt8 → Cnt → List (List UInt8) → Int
  | _, _, _, [] => 0
  | fst, last, es, p :: r =>
    if isPathN p = false then 12
    else if (!fst && (Op.bytesLess p last || p == last)) = true then 7
    else if ((aboveP p).2 && decide (cntE (aboveP p).1 es = 0)) = true then 12
    else pathsN false p (incE p es) r
theorem pathsN_eq : ∀ (l : List (List UInt8)) (fst : Bool) (last : List UInt8) (es : Cnt), pathsP fst last es l = pathsN fst last es l
  | [], _, _, _ => rfl
  | p :: r, fst, last, es => by
    unfold pathsP pathsN
    rw [isPathN_eq, pathsN_eq r]
structure QFine (nl : Nat) (q : Queue) : Prop where
  usr : 1 ≤ q.user ∧ q.user ≤ 1000000
  len : q.caps.length = nl
  caps : capsP q.caps = true
theorem queuesP_fine {nl : Nat} : ∀ (qs : List Queue) (fst : Bool) (last : List UInt8) (es : Cnt), (∀ q ∈ qs, QFine nl q) → queuesP nl fst last es qs = pathsP fst last es (qs.map Queue.path)
  | [], _, _, _, _ => rfl
  | q :: r, fst, last, es, h => by
    have hq := h q List.mem_cons_self
    have hu := hq.usr
    have hc : (decide (q.user < 1) || decide (q.user > 1000000) || decide (q.caps.length ≠ nl) || !capsP q.caps) = false := by
      rw [hq.caps, decide_eq_false (show ¬ q.user < 1 by omega), decide_eq_false (show ¬ q.user > 1000000 by omega), decide_eq_false (show ¬ q.caps.length ≠ nl by have := hq.len; omega)]
      rfl
    rw [List.map_cons]
    unfold queuesP pathsP
    rw [hc, queuesP_fine r _ _ _ fun x hx => h x (List.mem_cons_of_mem _ hx)]
    simp
theorem trees_paths : ∀ t ∈ trees, pathsN true [] [] t = 0 := by decide +kernel
def treeB (t : List (List UInt8)) : Bool := decide t.Nodup && (t.getD 0 [] == rootS) && ((List.range t.length).all fun i => decide (kidsS (t.getD i []) t).Nodup && !(kidsS (t.getD i []) t).contains rootS) &&
  ((List.range t.length).all fun i => (List.range t.length).all fun j => i == j || (kidsS (t.getD i []) t).all fun x => !(kidsS (t.getD j []) t).contains x) &&
  (List.range t.length).all fun w => w == 0 || (List.range t.length).any fun i => (kidsS (t.getD i []) t).contains (t.getD w [])
theorem trees_fine : ∀ t ∈ trees, treeB t = true := by decide +kernel
structure TreeF (t : List (List UInt8)) : Prop where
  nd : t.Nodup
  root : t.getD 0 [] = rootS
  knd : ∀ i, i < t.length → (kidsS (t.getD i []) t).Nodup
  kroot : ∀ i, i < t.length → rootS ∉ kidsS (t.getD i []) t
  dis : ∀ i, i < t.length → ∀ j, j < t.length → i ≠ j → ∀ x ∈ kidsS (t.getD i []) t, x ∉ kidsS (t.getD j []) t
  par : ∀ w, 0 < w → w < t.length → ∃ i, i < t.length ∧ t.getD w [] ∈ kidsS (t.getD i []) t
theorem treeF {t : List (List UInt8)} (h : treeB t = true) : TreeF t := by
  unfold treeB at h
  simp only [Bool.and_eq_true, decide_eq_true_eq, beq_iff_eq, List.all_eq_true, List.mem_range, Bool.not_eq_true', List.contains_eq_mem, decide_eq_false_iff_not, Bool.or_eq_true, List.any_eq_true] at h
  obtain ⟨⟨⟨⟨h1, h2⟩, h3⟩, h4⟩, h5⟩ := h
  refine ⟨h1, h2, fun i hi => (h3 i hi).1, fun i hi => (h3 i hi).2, fun i hi j hj hij x hx => ?_, fun w hw hwl => ?_⟩
  · rcases h4 i hi j hj with h | h
    · exact absurd h hij
    · exact h x hx
  · rcases h5 w hwl with h | h
    · omega
    · obtain ⟨i, hi, h⟩ := h
      exact ⟨i, hi, h⟩
theorem kidsX_px {t : List (List UInt8)} (h : kidsS [] t = []) (us : Nat → Int) (p : List UInt8) : kidsX p ((List.range t.length).map fun j => (⟨psT t j, .any, us j⟩ : PX)) = kidsS p t := by
  have e : ((List.range t.length).map fun j => (⟨psT t j, .any, us j⟩ : PX)).map PX.path = t := by
    rw [List.map_map]
    refine List.ext_getElem (by simp) fun i h1 h2 => ?_
    simp only [List.getElem_map, List.getElem_range, Function.comp]
    exact (psT_get i h2).symm
  rw [← kidsXS_eq h]
  generalize ((List.range t.length).map fun j => (⟨psT t j, .any, us j⟩ : PX)) = l at e
  subst e
  unfold kidsX kidsXS
  rw [List.filter_map]
  rfl
structure SharesF (t : List (List UInt8)) (nl : Nat) (cs : Nat → List Cap) : Prop where
  len : ∀ w, w < t.length → (cs w).length = nl
  root : 0 < t.length → ∀ k, k < nl → lv cs 0 k = ⟨10000, 10000⟩
  rng : ∀ w, w < t.length → ∀ k, k < nl → 0 ≤ (lv cs w k).least ∧ (lv cs w k).least ≤ (lv cs w k).most ∧ (lv cs w k).most ≤ 10000
  ins : ∀ i, i < t.length → kidsS (t.getD i []) t ≠ [] → ∀ k, k < nl → Whole (psT t) t.length (kidsS (t.getD i []) t) k cs
theorem good_shares {shape : Int} {nl : Nat} {us : Nat → Int} {cs : Nat → List Cap} (h : GoodG (treeOf shape) (treeOf shape).length nl us cs) : SharesF (treeOf shape) nl cs := by
  have ht := treeOf_mem shape
  have hf := treeF (trees_fine _ ht)
  obtain ⟨k1, k2, k3, k4⟩ := kids_of (trees_kids _ ht)
  generalize treeOf shape = t at h ht hf k4
  obtain ⟨cs0, hc0, hil⟩ := h.il
  have hkf : (fun i => kidsX (t.getD i default) ((List.range t.length).map fun j => (⟨psT t j, .any, us j⟩ : PX))) = fun i => kidsS (t.getD i []) t := by
    funext i
    exact kidsX_px k4 us _
  rw [hkf] at hil
  have hl0 : ∀ w, w < t.length → nl ≤ (cs0 w).length := fun w hw => by rw [hc0 w hw]; simp
  obtain ⟨g1, g2, g3⟩ := hil.facts hf.knd hf.dis hl0 (Nat.le_refl _)
  have hw0 : ∀ w, w < t.length → ∀ k, k < nl → lv cs0 w k = ⟨10000, 10000⟩ := fun w hw k hk => by
    unfold lv
    rw [hc0 w hw]
    simp [List.getD_eq_getElem?_getD, hk, W0]
  refine ⟨h.len, fun hp k hk => ?_, fun w hw k hk => ?_, g3⟩
  · rw [g2 0 (fun i hi => ?_) k, hw0 0 hp k hk]
    have : psT t 0 = rootS := hf.root
    rw [this]
    exact hf.kroot i hi
  · by_cases hm : ∃ i, i < t.length ∧ psT t w ∈ kidsS (t.getD i []) t
    · obtain ⟨i, hi, hm⟩ := hm
      obtain ⟨j, hj, he⟩ := List.getElem_of_mem hm
      obtain ⟨L, M, h1, h2, h3⟩ := g3 i hi (fun h => by rw [h] at hm; simp at hm) k hk
      rw [h3 j hj w hw he.symm]
      exact h1 j hj
    · rw [g2 w (fun i hi hx => hm ⟨i, hi, hx⟩) k, hw0 w hw k hk]
      decide
def turn (c : Cap) : Cap := if c.least = 0 then ⟨1, if c.most < 1 then 1 else c.most⟩ else ⟨c.least - 1, c.most⟩
def turnC (cs : Nat → List Cap) (m k : Nat) : Nat → List Cap := fun w => if w = m then (cs m).set k (turn (lv cs m k)) else cs w
theorem turn_len {cs : Nat → List Cap} {m k : Nat} (w : Nat) : (turnC cs m k w).length = (cs w).length := by
  unfold turnC
  split
  · rename_i h; rw [List.length_set, h]
  · rfl
theorem lv_turn_in {cs : Nat → List Cap} {m k : Nat} (hk : k < (cs m).length) : lv (turnC cs m k) m k = turn (lv cs m k) := by
  conv => lhs; unfold lv turnC
  rw [if_pos rfl, List.getD_eq_getElem?_getD, List.getElem?_set_self hk]
  rfl
theorem lv_turn_out {cs : Nat → List Cap} {m k w i : Nat} (h : w ≠ m ∨ i ≠ k) : lv (turnC cs m k) w i = lv cs w i := by
  by_cases hw : w = m
  · subst hw
    have hi : i ≠ k := h.resolve_left fun h => h rfl
    unfold lv turnC
    rw [if_pos rfl, List.getD_eq_getElem?_getD, List.getD_eq_getElem?_getD, List.getElem?_set_ne (by omega)]
  · unfold lv turnC
    rw [if_neg hw]
theorem turn_rng {c : Cap} (h : 0 ≤ c.least ∧ c.least ≤ c.most ∧ c.most ≤ 10000) : 0 ≤ (turn c).least ∧ (turn c).least ≤ (turn c).most ∧ (turn c).most ≤ 10000 ∧ (turn c).least ≤ 10000 := by
  unfold turn
  split
  · simp only
    split <;> omega
  · simp only
    omega
theorem qsG_get {t : List (List UInt8)} {us : Nat → Int} {cs : Nat → List Cap} {w : Nat} (hw : w < t.length) : (qsG t t.length us cs)[w]? = some (rowG t us cs w) := by
  unfold qsG
  rw [List.getElem?_map, List.getElem?_range hw]
  rfl
theorem least_at {t : List (List UInt8)} (hnd : t.Nodup) {us : Nat → Int} {cs : Nat → List Cap} {w k : Nat} (hw : w < t.length) : leastOf (qsG t t.length us cs) k (psT t w) = (lv cs w k).least := by
  have hlen := qsG_len t us cs
  have hi : idxI (pathP (psT t w)) (qsG t t.length us cs) = (w : Int) := by
    have hg : ∀ j, (hj : j < t.length) → (qsG t t.length us cs)[j]'(by omega) = rowG t us cs j := fun j hj => by
      have := qsG_get (us := us) (cs := cs) hj
      rw [List.getElem?_eq_getElem (by omega)] at this
      exact Option.some.inj this
    refine idx_at (by omega) (fun j hj => ?_) ?_
    · rw [hg j (by omega)]
      show (psT t j == psT t w) = false
      rw [beq_eq_false_iff_ne, ← psT_get j (by omega), ← psT_get w hw]
      intro he
      have := nd_inj hnd _ _ he
      omega
    · rw [hg w hw]
      show (psT t w == psT t w) = true
      simp
  have hq : (qsG t t.length us cs).getD w default = rowG t us cs w := by
    rw [List.getD_eq_getElem?_getD, qsG_get hw]
    rfl
  unfold leastOf
  rw [hi, Int.toNat_natCast, hq]
  rfl
theorem sumK_take (qs : List Queue) (k : Nat) (ks : List (List UInt8)) : ∀ m, m ≤ ks.length → sumK qs k (ks.take m) = sumN (fun t => leastOf qs k (ks.getD t [])) m
  | 0, _ => rfl
  | m + 1, h => by
    have e : ks.getD m [] = ks[m] := by rw [List.getD_eq_getElem?_getD, List.getElem?_eq_getElem (by omega)]; rfl
    rw [List.take_succ_eq_append_getElem (by omega), sumK_snoc, sumK_take qs k ks m (by omega), ← e]
    rfl
theorem sumN_one (L : Nat → Int) (t0 : Nat) (d : Int) : ∀ m, sumN (fun t => if t = t0 then L t + d else L t) m = sumN L m + (if t0 < m then d else 0)
  | 0 => by simp [sumN]
  | m + 1 => by
    unfold sumN
    rw [sumN_one L t0 d m]
    by_cases h : m = t0
    · subst h
      simp
      omega
    · rw [if_neg h]
      by_cases h2 : t0 < m
      · rw [if_pos h2, if_pos (show t0 < m + 1 by omega)]; omega
      · rw [if_neg h2, if_neg (show ¬ t0 < m + 1 by omega)]; omega
theorem turn_ne (c : Cap) : ∃ d : Int, d ≠ 0 ∧ (turn c).least = c.least + d := by
  unfold turn
  split
  · exact ⟨1, by decide, by simp only; omega⟩
  · exact ⟨-1, by decide, by simp only; omega⟩
theorem turned_sums {t : List (List UInt8)} (ht : TreeF t) {nl : Nat} {us : Nat → Int} {cs : Nat → List Cap} (hs : SharesF t nl cs) {m k : Nat} (hm : m < t.length) (hk : k < nl) : sumsP nl (qsG t t.length us (turnC cs m k)) = 13 := by
  unfold sumsP
  by_cases h0 : m = 0
  · subst h0
    rw [if_pos]
    rw [List.getD_eq_getElem?_getD, qsG_get hm]
    show (turnC cs 0 k 0).any notW = true
    have hl : k < (cs 0).length := by rw [hs.len 0 hm]; exact hk
    have h1 := lv_turn_in hl
    rw [hs.root hm k hk] at h1
    have hl2 : k < (turnC cs 0 k 0).length := by rw [turn_len]; exact hl
    refine List.any_eq_true.2 ⟨(turnC cs 0 k 0)[k], List.getElem_mem _, ?_⟩
    have e : (turnC cs 0 k 0)[k] = turn ⟨10000, 10000⟩ := by
      rw [← h1]
      unfold lv
      simp [List.getD_eq_getElem?_getD, hl2]
    rw [e]
    decide
  · by_cases hr : ((qsG t t.length us (turnC cs m k)).getD 0 default).caps.any notW = true
    · rw [if_pos hr]
    · rw [if_neg hr, if_pos]
      obtain ⟨i, hi, hmem⟩ := ht.par m (by omega) hm
      have hne : kidsS (t.getD i []) t ≠ [] := fun h => by rw [h] at hmem; simp at hmem
      obtain ⟨L, M, h1, h2, h3⟩ := hs.ins i hi hne k hk
      refine List.any_eq_true.2 ⟨rowG t us (turnC cs m k) i, List.mem_iff_getElem?.2 ⟨i, qsG_get hi⟩, ?_⟩
      have hp : (rowG t us (turnC cs m k) i).path = t.getD i [] := rfl
      unfold sumsBad
      rw [hp, kidsS_eq, qsG_path]
      obtain ⟨t0, ht0, he0⟩ := List.getElem_of_mem hmem
      have hkm : ∀ s ∈ kidsS (t.getD i []) t, s ∈ t := fun s h => (List.mem_filter.1 h).1
      have hnd := ht.knd i hi
      generalize kidsS (t.getD i []) t = ks at hne h1 h2 h3 ht0 he0 hkm hnd
      have he : ks.isEmpty = false := List.isEmpty_eq_false_iff.2 hne
      rw [he, Bool.not_false, Bool.true_and]
      refine List.any_eq_true.2 ⟨k, List.mem_range.2 hk, decide_eq_true ?_⟩
      obtain ⟨d, hd, hdl⟩ := turn_ne (lv cs m k)
      have hsum := sumK_take (qsG t t.length us (turnC cs m k)) k ks ks.length (Nat.le_refl _)
      rw [List.take_length] at hsum
      have hcong : sumN (fun u => leastOf (qsG t t.length us (turnC cs m k)) k (ks.getD u [])) ks.length = sumN (fun u => if u = t0 then L u + d else L u) ks.length := sumN_congr _ fun u hu => by
        obtain ⟨w, hw, hwe⟩ := List.getElem_of_mem (hkm _ (List.getElem_mem hu))
        have hg : ks.getD u [] = psT t w := by
          rw [List.getD_eq_getElem?_getD, List.getElem?_eq_getElem hu, ← psT_get w hw, hwe]
          rfl
        rw [hg, least_at ht.nd hw]
        have hL := h3 u hu w hw (by rw [← psT_get w hw, hwe])
        by_cases hu0 : u = t0
        · subst hu0
          rw [if_pos rfl]
          have hwm : w = m := nd_inj ht.nd hw hm (by rw [hwe, he0]; simp [List.getD_eq_getElem?_getD, hm])
          subst hwm
          rw [lv_turn_in (by rw [hs.len w hw]; exact hk), hdl, hL]
        · rw [if_neg hu0, lv_turn_out (.inl ?_), hL]
          rintro rfl
          refine hu0 (nd_inj hnd hu ht0 ?_)
          rw [he0, ← hwe]
          simp [List.getD_eq_getElem?_getD, hw]
      rw [hsum, hcong, sumN_one, if_pos ht0, h2]
      omega
theorem turned_fine {t : List (List UInt8)} {nl : Nat} {us : Nat → Int} {cs : Nat → List Cap} (hu : ∀ q, q < t.length → 1 ≤ us q ∧ us q ≤ 1000000) (hs : SharesF t nl cs) {m k : Nat} (hm : m < t.length) (hk : k < nl) :
    ∀ q ∈ qsG t t.length us (turnC cs m k), QFine nl q ∧ ∀ c ∈ q.caps, 0 ≤ c.least ∧ c.least ≤ 10000 := by
  intro q hq
  unfold qsG at hq
  obtain ⟨w, hw, rfl⟩ := List.mem_map.1 hq
  have hw := List.mem_range.1 hw
  have hrng : ∀ c ∈ turnC cs m k w, 0 ≤ c.least ∧ c.least ≤ c.most ∧ c.most ≤ 10000 ∧ c.least ≤ 10000 := fun c hc => by
    obtain ⟨i, hi, rfl⟩ := List.getElem_of_mem hc
    have hi2 : i < nl := by rw [turn_len, hs.len w hw] at hi; exact hi
    have e : (turnC cs m k w)[i] = lv (turnC cs m k) w i := by
      unfold lv
      simp [List.getD_eq_getElem?_getD, hi]
    rw [e]
    by_cases hc : w = m ∧ i = k
    · obtain ⟨rfl, rfl⟩ := hc
      rw [lv_turn_in (by rw [hs.len w hw]; exact hi2)]
      exact turn_rng (hs.rng w hw i hi2)
    · rw [lv_turn_out (if h : w = m then .inr fun h2 => hc ⟨h, h2⟩ else .inl h)]
      have := hs.rng w hw i hi2
      omega
  refine ⟨⟨hu w hw, ?_, ?_⟩, fun c hc => ?_⟩
  · show (turnC cs m k w).length = nl
    rw [turn_len, hs.len w hw]
  · show (!(turnC cs m k w).any badC) = true
    rw [Bool.not_eq_true', List.any_eq_false]
    intro c hc
    have := hrng c hc
    unfold badC
    simp
    omega
  · have := hrng c hc
    omega
end Go.Proofs.YtcplpegahpmnjaaDoor
