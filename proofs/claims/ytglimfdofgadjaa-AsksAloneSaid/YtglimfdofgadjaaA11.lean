/- What functions of the program compute. No condition. -/
import Derived.Test.YtglimfdofgadjaaA9
import Derived.Test.YtglimfdofgadjaaA8
set_option linter.unusedSimpArgs false
set_option linter.unusedVariables false
namespace Go.Proofs.Ytglimfdofgadjaa
open Go Go.Ab

theorem seq_vec {ng : Bool} {a b c d : Int} {K : AV → Prop} : seqK ng [.int .i64 0, .int .i64 0] (.agg [.int .i64 a, .int .i64 b]) (.agg [.int .i64 c, .int .i64 d]) K = K (.bool (if ng then !((a, b) == (c, d)) else (a, b) == (c, d))) := by
  have e : scEqs [.int .i64 0, .int .i64 0] [.int .i64 a, .int .i64 b] [.int .i64 c, .int .i64 d] = some ((a, b) == (c, d)) := by
    simp only [scEqs, scEq]
    simp [BEq.beq, instBEqOfDecidableEq]
  show (∃ x, scEqs [.int .i64 0, .int .i64 0] [.int .i64 a, .int .i64 b] [.int .i64 c, .int .i64 d] = some x ∧ K (.bool (if ng then !x else x))) = _
  rw [e]
  simp
def upd (f : Nat → Ask) (p : Nat) (a : Ask) : Nat → Ask := fun i => if i = p then a else f i
def byC (f : Nat → Ask) : List AV := askC (f 0) ++ (askC (f 1) ++ (askC (f 2) ++ (askC (f 3) ++ (askC (f 4) ++ (askC (f 5) ++ (askC (f 6) ++ (askC (f 7) ++ (askC (f 8) ++ askC (f 9)))))))))
theorem by_len {f : Nat → Ask} : (byC f).length = 80 := rfl
theorem by_one {f : Nat → Ask} : (byC f).all AV.one = true := rfl
theorem by_ok {f : Nat → Ask} : (byC f).all AV.ok = true := rfl
theorem by_ro {f : Nat → Ask} {ρ : Nat → Option Nat} : AV.roL ρ (byC f) = byC f := rfl
theorem by_bo {f : Nat → Ask} {ρ : Nat → Option Nat} {n : Nat} : AV.boL ρ n (byC f) = true := rfl
theorem ten {p : Nat} (h : p < 10) : p = 0 ∨ p = 1 ∨ p = 2 ∨ p = 3 ∨ p = 4 ∨ p = 5 ∨ p = 6 ∨ p = 7 ∨ p = 8 ∨ p = 9 := by omega
theorem by_at (f : Nat → Ask) (p k : Nat) (h : p < 10) (hk : k = 1 ∨ k = 2 ∨ k = 3 ∨ k = 4) : partOf (byC f) (p * 8 + k) 1 false = partOf (askC (f p)) k 1 false := by
  rcases ten h with rfl | rfl | rfl | rfl | rfl | rfl | rfl | rfl | rfl | rfl <;> rcases hk with rfl | rfl | rfl | rfl <;> rfl
theorem by_set (f : Nat → Ask) (p : Nat) (a : Ask) (h : p < 10) : (byC f).take (p * 8) ++ askC a ++ (byC f).drop (p * 8 + 8) = byC (upd f p a) := by
  rcases ten h with rfl | rfl | rfl | rfl | rfl | rfl | rfl | rfl | rfl | rfl <;> rfl
def g1 (lb : Int) (a : Ask) : Int := if lb = a.label then a.mem * a.count else 0
def g2 (lb : Int) (a : Ask) : Int := if lb = a.label then a.cores * a.count else 0
theorem pendF_g (lb : Int) (v : Int × Int) (a : Ask) : pendF lb v a = (v.1 + g1 lb a, v.2 + g2 lb a) := by
  unfold pendF g1 g2
  split <;> simp
theorem pend_sum (lb : Int) : ∀ (l : List Ask) (v : Int × Int), l.foldl (pendF lb) v = (v.1 + (l.map (g1 lb)).sum, v.2 + (l.map (g2 lb)).sum)
  | [], v => by simp
  | x :: l, v => by
    rw [List.foldl_cons, pend_sum lb l, pendF_g]
    simp only [List.map_cons, List.sum_cons]
    congr 1 <;> omega
def Wp (lb : Int) (f : Nat → Ask) : Nat → Int × Int
  | 0 => (0, 0)
  | p + 1 => pendF lb (Wp lb f p) (f p)
def part (g : Ask → Int) (p : Int) (l : List Ask) : Int := ((l.filter (prioP p)).map g).sum
theorem part_cons (g : Ask → Int) (p : Int) (x : Ask) (l : List Ask) : part g p (x :: l) = (if x.prio = p then g x else 0) + part g p l := by
  unfold part prioP
  by_cases h : x.prio = p
  · simp [List.filter_cons, h]
  · simp [List.filter_cons, h]
theorem parts (g : Ask → Int) : ∀ (l : List Ask), (∀ x ∈ l, 0 ≤ x.prio ∧ x.prio ≤ 9) → (l.map g).sum = part g 0 l + part g 1 l + part g 2 l + part g 3 l + part g 4 l + part g 5 l + part g 6 l + part g 7 l + part g 8 l + part g 9 l
  | [], _ => by simp [part]
  | x :: l, h => by
    have ih := parts g l fun y hy => h y (List.mem_cons_of_mem _ hy)
    have hx := h x List.mem_cons_self
    simp only [part_cons, List.map_cons, List.sum_cons]
    have : x.prio = 0 ∨ x.prio = 1 ∨ x.prio = 2 ∨ x.prio = 3 ∨ x.prio = 4 ∨ x.prio = 5 ∨ x.prio = 6 ∨ x.prio = 7 ∨ x.prio = 8 ∨ x.prio = 9 := by omega
    rcases this with e | e | e | e | e | e | e | e | e | e <;> rw [e] <;> simp <;> omega
def Corr (lb : Int) (l : List Ask) (f : Nat → Ask) : Prop := ∀ p : Nat, p < 10 → part (g1 lb) p l = g1 lb (f p) ∧ part (g2 lb) p l = g2 lb (f p)
theorem corr_end {lb : Int} {l : List Ask} {f : Nat → Ask} (hc : Corr lb l f) (h : ∀ x ∈ l, 0 ≤ x.prio ∧ x.prio ≤ 9) : pendL lb l = Wp lb f 10 := by
  unfold pendL
  rw [pend_sum, parts _ l h, parts _ l h]
  have e0 : part (g1 lb) 0 l = g1 lb (f 0) ∧ part (g2 lb) 0 l = g2 lb (f 0) := hc 0 (by omega)
  have e1 : part (g1 lb) 1 l = g1 lb (f 1) ∧ part (g2 lb) 1 l = g2 lb (f 1) := hc 1 (by omega)
  have e2 : part (g1 lb) 2 l = g1 lb (f 2) ∧ part (g2 lb) 2 l = g2 lb (f 2) := hc 2 (by omega)
  have e3 : part (g1 lb) 3 l = g1 lb (f 3) ∧ part (g2 lb) 3 l = g2 lb (f 3) := hc 3 (by omega)
  have e4 : part (g1 lb) 4 l = g1 lb (f 4) ∧ part (g2 lb) 4 l = g2 lb (f 4) := hc 4 (by omega)
  have e5 : part (g1 lb) 5 l = g1 lb (f 5) ∧ part (g2 lb) 5 l = g2 lb (f 5) := hc 5 (by omega)
  have e6 : part (g1 lb) 6 l = g1 lb (f 6) ∧ part (g2 lb) 6 l = g2 lb (f 6) := hc 6 (by omega)
  have e7 : part (g1 lb) 7 l = g1 lb (f 7) ∧ part (g2 lb) 7 l = g2 lb (f 7) := hc 7 (by omega)
  have e8 : part (g1 lb) 8 l = g1 lb (f 8) ∧ part (g2 lb) 8 l = g2 lb (f 8) := hc 8 (by omega)
  have e9 : part (g1 lb) 9 l = g1 lb (f 9) ∧ part (g2 lb) 9 l = g2 lb (f 9) := hc 9 (by omega)
  simp only [Wp, pendF_g, Int.zero_add]
  congr 1 <;> omega
theorem part_ins (g : Ask → Int) (p : Int) (k : Nat) (a : Ask) (m : List Ask) : part g p (insL k a m) = (if a.prio = p then g a else 0) + part g p m := by
  have e : part g p m = part g p (m.take k) + part g p (m.drop k) := by
    unfold part
    conv => lhs; rw [← List.take_append_drop k m]
    rw [List.filter_append, List.map_append, List.sum_append]
  have e2 : part g p (insL k a m) = part g p (m.take k) + part g p (a :: m.drop k) := by
    unfold part insL
    rw [List.filter_append, List.map_append, List.sum_append]
  rw [e2, part_cons, e]
  omega
theorem part_keep (g : Ask → Int) (p q : Int) (m : List Ask) : part g p (keepL q m) = if p = q then 0 else part g p m := by
  unfold part keepL
  rw [List.filter_filter]
  by_cases h : p = q
  · subst h
    have : m.filter (fun a => prioP p a && !prioP p a) = [] := List.filter_eq_nil_iff.2 (by simp)
    rw [this, if_pos rfl]
    rfl
  · rw [if_neg h]
    congr 2
    apply List.filter_congr
    intro x _
    by_cases hp : x.prio = p
    · simp [prioP, hp, h]
    · simp [prioP, hp]
theorem corr_set {lb : Int} {l b : List Ask} {f : Nat → Ask} {x : Ask} (hc : Corr lb l f) (hx : Gd x) (hs : setL x l = (b, 0)) : Corr lb b (upd f x.prio.toNat x) := by
  intro p hp
  have hpp : (x.prio = (p : Int)) ↔ p = x.prio.toNat := by have := hx.p0; omega
  have c := hc p hp
  have z1 : x.count = 0 → g1 lb x = 0 := fun h => by unfold g1; rw [h]; simp
  have z2 : x.count = 0 → g2 lb x = 0 := fun h => by unfold g2; rw [h]; simp
  unfold upd
  rcases set_cases x l with ⟨e, _⟩ | ⟨h0, e⟩ | ⟨h0, _, e⟩ <;> rw [e] at hs
  · cases hs
  · cases hs
    rw [part_keep, part_keep]
    by_cases h : p = x.prio.toNat
    · rw [if_pos h, if_pos (hpp.2 h).symm, if_pos (hpp.2 h).symm]
      exact ⟨(z1 h0).symm, (z2 h0).symm⟩
    · have h' : ¬ (p : Int) = x.prio := fun e => h (hpp.1 e.symm)
      rw [if_neg h, if_neg h', if_neg h']
      exact c
  · cases hs
    rw [part_ins, part_ins, part_keep, part_keep]
    by_cases h : p = x.prio.toNat
    · rw [if_pos h, if_pos (hpp.2 h).symm, if_pos (hpp.2 h).symm, if_pos (hpp.2 h), if_pos (hpp.2 h)]
      constructor <;> simp [g1, g2]
    · have h' : ¬ (p : Int) = x.prio := fun e => h (hpp.1 e.symm)
      have h2 : ¬ x.prio = (p : Int) := fun e => h (hpp.1 e)
      rw [if_neg h, if_neg h', if_neg h', if_neg h2, if_neg h2]
      constructor <;> (first | (rw [Int.zero_add]; exact c.1) | (rw [Int.zero_add]; exact c.2))
theorem corr_nil (lb : Int) : Corr lb [] (fun _ => ⟨0, 0, 0, 0, 0, 0, 0, 0⟩) := fun p _ => by simp [part, g1, g2]
theorem wp_rng (lb : Int) (f : Nat → Ask) (h : ∀ p, Rng (f p)) : ∀ p : Nat, 0 ≤ (Wp lb f p).1 ∧ (Wp lb f p).1 ≤ p * 2 ^ 36 ∧ 0 ≤ (Wp lb f p).2 ∧ (Wp lb f p).2 ≤ p * 2 ^ 36
  | 0 => by simp [Wp]
  | p + 1 => by
    have ih := wp_rng lb f h p
    have r := h p
    have r0 := mul_rng r.m0 r.m1 r.n0 r.n1
    have r1 := mul_rng r.c0 r.c1 r.n0 r.n1
    have e : ((p + 1 : Nat) : Int) * 2 ^ 36 = p * 2 ^ 36 + 2 ^ 36 := by omega
    rw [e]
    unfold Wp pendF
    generalize Wp lb f p = w at ih
    split <;> (try simp only) <;> omega
set_option maxRecDepth 20000 in
set_option maxHeartbeats 4000000 in
theorem pending_law (l : List Ask) (hl : l.length < 2 ^ 63) (lb : Int) : ACall Try.prog 4 [.sl false 8 (l.map ASK), .int .i64 lb] [] fun y _ => y = .bool true := by
  refine acall_of is4 (by simp) ?_
  unfold cc4
  simp -implicitDefEqProofs (maxSteps := 500000) (disch := first | decide | omega) only [↓preS, ↓reduceIte, allS, Nat.reduceBEq, Nat.reduceAdd, Nat.reduceEqDiff, reduceIte, Int.reduceToNat, Int.reduceLE, Int.reduceLT, Nat.reduceLeDiff, Nat.reduceMul, Nat.reducePow, Nat.reduceLT, Int.reduceBEq, Int.reduceBNe, Int.reduceAdd, Int.reduceSub, Int.reduceMul, Int.reduceGT, Int.reduceGE, decS, Int.reduceNe, Int.reduceEq]
  refine acK_of (FCall.of (lent := false) (known_ok) (.refl rfl) rfl (by simp)) ?_
  simp -implicitDefEqProofs (maxSteps := 500000) (disch := first | decide | omega) only [↓preS, ↓reduceIte, allS, Nat.reduceBEq, Nat.reduceAdd, Nat.reduceEqDiff, reduceIte, Int.reduceToNat, Int.reduceLE, Int.reduceLT, Nat.reduceLeDiff, Nat.reduceMul, Nat.reducePow, Nat.reduceLT, Int.reduceBEq, Int.reduceBNe, Int.reduceAdd, Int.reduceSub, Int.reduceMul, Int.reduceGT, Int.reduceGE, decS, Int.reduceNe, Int.reduceEq]
  refine acK_of (FCall.of (lent := false) (within_ok lb 2 (by omega) (by omega)) (.refl rfl) rfl (by simp)) ?_
  simp -implicitDefEqProofs (maxSteps := 500000) (disch := first | decide | omega) only [↓preS, ↓reduceIte, allS, Nat.reduceBEq, Nat.reduceAdd, Nat.reduceEqDiff, reduceIte, Int.reduceToNat, Int.reduceLE, Int.reduceLT, Nat.reduceLeDiff, Nat.reduceMul, Nat.reducePow, Nat.reduceLT, Int.reduceBEq, Int.reduceBNe, Int.reduceAdd, Int.reduceSub, Int.reduceMul, Int.reduceGT, Int.reduceGE, decS, Int.reduceNe, Int.reduceEq]
  generalize win lb 2 = lb
  unfold cc4L1
  simp -implicitDefEqProofs (maxSteps := 500000) (disch := first | decide | omega) only [↓preS, ↓reduceIte, allS, Nat.reduceBEq, Nat.reduceAdd, Nat.reduceEqDiff, reduceIte, Int.reduceToNat, Int.reduceLE, Int.reduceLT, Nat.reduceLeDiff, Nat.reduceMul, Nat.reducePow, Nat.reduceLT, Int.reduceBEq, Int.reduceBNe, Int.reduceAdd, Int.reduceSub, Int.reduceMul, Int.reduceGT, Int.reduceGE, decS, Int.reduceNe, Int.reduceEq]
  refine ⟨rfl, rfl, rfl, ?_⟩
  refine aw_loopS (σ := Nat × List Ask × (Nat → Ask)) (fun q => ⟨[(0, .sl false 8 (l.map ASK)), (1, .int .i64 lb), (5, .sl false 8 (q.2.1.map ASK)), (6, .ref 0 0 0), (7, .ref 1 0 0), (8, .int .i64 (q.1 : Int))], [.box [.int .i64 0, .int .i64 0], .box (byC q.2.2)]⟩)
    (fun q => q.1 ≤ l.length ∧ q.1 ≤ 8 ∧ Inv q.2.1 ∧ q.2.1.length ≤ q.1 ∧ Corr lb q.2.1 q.2.2 ∧ ∀ p, Rng (q.2.2 p)) (fun q => 8 - q.1) (0, [], fun _ => ⟨0, 0, 0, 0, 0, 0, 0, 0⟩) ?_ ⟨by simp, by simp, Inv.nil, by simp, corr_nil lb, fun p => ⟨by simp, by simp, by simp, by simp, by simp, by simp⟩⟩ ?_
  · (refine Sub.ofL [some 0, some 1] rfl (by simp) (by decide) (by simp [partL, AO.ro, AV.ro, AV.roL, names, AO.empty, SB, U8, SI, I64, STR] <;> (try and_intros) <;> rfl) (by simp [AO.bo, AV.bo, AV.boL, names] <;> (try and_intros) <;> rfl) ?_ <;> (try simp only [List.map_cons, List.map_nil, regsL, AV.ro, AV.roL, AV.bo, AV.boL, names, get_here, get_there, Nat.reduceBEq, List.getD_cons_zero, List.getD_cons_succ, List.getD_nil, and_true, true_and, Nat.reduceLT, List.length_cons, List.length_nil, Nat.reduceAdd, decide_true, Option.isSome_some, Bool.true_or, Bool.and_self, Option.isSome_none, Bool.false_or, beq_self_eq_true, wk0_self, wk0_nils]) <;> (try and_intros) <;> (first | done | rfl | exact .inl rfl | exact .inr ⟨rfl, _, _, rfl⟩ | (simp; done) | (simp; omega) | (refine .inl ?_; simp; done) | (refine .inl ?_; simp; omega)))
  rintro ⟨i, a, f⟩ ⟨hi1, hi2, inv, hm, co, rf⟩
  simp only at hi1 hi2 inv hm co rf
  unfold cc4l1
  by_cases hil : i < l.length ∧ i < 8
  · obtain ⟨hil, hi30⟩ := hil
    have hg : l.getD i default = l[i] := by simp [hil]
    simp -implicitDefEqProofs (maxSteps := 500000) (disch := first | decide | omega) only [↓preS, ↓reduceIte, allS, Nat.reduceBEq, Nat.reduceAdd, Nat.reduceEqDiff, reduceIte, Int.reduceToNat, Int.reduceLE, Int.reduceLT, Nat.reduceLeDiff, Nat.reduceMul, Nat.reducePow, Nat.reduceLT, Int.reduceBEq, Int.reduceBNe, Int.reduceAdd, Int.reduceSub, Int.reduceMul, Int.reduceGT, Int.reduceGE, decS, Int.reduceNe, Int.reduceEq, askS, askT, hg, List.append_nil, by_len, by_one, by_ok, by_ro, by_bo]
    refine ⟨by omega, by omega, ?_⟩
    refine acK_of (FCall.of (lent := false) (good_ok l[i]) (.refl rfl) rfl (by simp)) ?_
    have gd := gd_good l[i]
    generalize goodA l[i] = x at gd
    simp -implicitDefEqProofs (maxSteps := 500000) (disch := first | decide | omega) only [↓preS, ↓reduceIte, allS, Nat.reduceBEq, Nat.reduceAdd, Nat.reduceEqDiff, reduceIte, Int.reduceToNat, Int.reduceLE, Int.reduceLT, Nat.reduceLeDiff, Nat.reduceMul, Nat.reducePow, Nat.reduceLT, Int.reduceBEq, Int.reduceBNe, Int.reduceAdd, Int.reduceSub, Int.reduceMul, Int.reduceGT, Int.reduceGE, decS, Int.reduceNe, Int.reduceEq, askS, askT, hg, List.append_nil, by_len, by_one, by_ok, by_ro, by_bo]
    have hal := inv.le
    refine acK_of (FCall.of (lent := false) (set_ok false a x (by omega)) (.refl rfl) rfl (by simp)) ?_
    have inv2 := inv_set inv gd
    have e1 : (setL x a).2 = 0 := by
      rcases set_err (a := x) inv with e | ⟨_, h8⟩
      · exact e
      · omega
    have hlen : (setL x a).1.length ≤ i + 1 := by
      have := keep_le x.prio a
      rcases set_cases x a with ⟨e, _⟩ | ⟨_, e⟩ | ⟨_, _, e⟩ <;> rw [e] <;> simp [insL] <;> omega
    generalize hs : setL x a = s at e1 inv2 hlen
    obtain ⟨b, e2⟩ := s
    simp only at e1 inv2 hlen
    subst e1
    have co2 := corr_set co gd hs
    have p0 := gd.p0
    have p9 := gd.p9
    have hset := by_set f x.prio.toNat x (by omega)
    unfold setR
    simp -implicitDefEqProofs (maxSteps := 500000) (disch := first | decide | omega) only [↓preS, ↓reduceIte, allS, Nat.reduceBEq, Nat.reduceAdd, Nat.reduceEqDiff, reduceIte, Int.reduceToNat, Int.reduceLE, Int.reduceLT, Nat.reduceLeDiff, Nat.reduceMul, Nat.reducePow, Nat.reduceLT, Int.reduceBEq, Int.reduceBNe, Int.reduceAdd, Int.reduceSub, Int.reduceMul, Int.reduceGT, Int.reduceGE, decS, Int.reduceNe, Int.reduceEq, askS, askT, hg, List.append_nil, by_len, by_one, by_ok, by_ro, by_bo]
    refine ⟨by omega, by omega, by omega, ?_⟩
    rw [hset]
    refine ⟨(i + 1, b, upd f x.prio.toNat x), ?_, ⟨by simp only; omega, by simp only; omega, inv2, hlen, co2, fun p => ?_⟩, by simp only; omega⟩
    · (refine Sub.ofL [some 0, some 1] rfl (by simp) (by decide) (by simp [partL, AO.ro, AV.ro, AV.roL, names, AO.empty, SB, U8, SI, I64, STR] <;> (try and_intros) <;> rfl) (by simp [AO.bo, AV.bo, AV.boL, names] <;> (try and_intros) <;> rfl) ?_ <;> (try simp only [List.map_cons, List.map_nil, regsL, AV.ro, AV.roL, AV.bo, AV.boL, names, get_here, get_there, Nat.reduceBEq, List.getD_cons_zero, List.getD_cons_succ, List.getD_nil, and_true, true_and, Nat.reduceLT, List.length_cons, List.length_nil, Nat.reduceAdd, decide_true, Option.isSome_some, Bool.true_or, Bool.and_self, Option.isSome_none, Bool.false_or, beq_self_eq_true, wk0_self, wk0_nils]) <;> (try and_intros) <;> (first | done | rfl | exact .inl rfl | exact .inr ⟨rfl, _, _, rfl⟩ | (simp; done) | (simp; omega) | (refine .inl ?_; simp; done) | (refine .inl ?_; simp; omega)))
    · simp only [upd]
      split
      · exact gd.rng
      · exact rf p
  · have hor : ¬ i < l.length ∨ (i < l.length ∧ ¬ i < 8) := by omega
    clear hil
    have hal := inv.le
    have hend := corr_end co fun x hx => ⟨(inv.gd x hx).1.p0, (inv.gd x hx).1.p9⟩
    rcases hor with h0 | h0 <;> (
    simp -implicitDefEqProofs (maxSteps := 500000) (disch := first | decide | omega) only [↓preS, ↓reduceIte, allS, Nat.reduceBEq, Nat.reduceAdd, Nat.reduceEqDiff, reduceIte, Int.reduceToNat, Int.reduceLE, Int.reduceLT, Nat.reduceLeDiff, Nat.reduceMul, Nat.reducePow, Nat.reduceLT, Int.reduceBEq, Int.reduceBNe, Int.reduceAdd, Int.reduceSub, Int.reduceMul, Int.reduceGT, Int.reduceGE, decS, Int.reduceNe, Int.reduceEq]
    unfold cc4L0
    simp -implicitDefEqProofs (maxSteps := 500000) (disch := first | decide | omega) only [↓preS, ↓reduceIte, allS, Nat.reduceBEq, Nat.reduceAdd, Nat.reduceEqDiff, reduceIte, Int.reduceToNat, Int.reduceLE, Int.reduceLT, Nat.reduceLeDiff, Nat.reduceMul, Nat.reducePow, Nat.reduceLT, Int.reduceBEq, Int.reduceBNe, Int.reduceAdd, Int.reduceSub, Int.reduceMul, Int.reduceGT, Int.reduceGE, decS, Int.reduceNe, Int.reduceEq]
    refine aw_loopS (σ := Nat) (fun p => ⟨[(1, .int .i64 lb), (5, .sl false 8 (a.map ASK)), (6, .ref 0 0 0), (7, .ref 1 0 0), (12, .int .i64 (p : Int))], [.box [.int .i64 (Wp lb f p).1, .int .i64 (Wp lb f p).2], .box (byC f)]⟩) (fun p => p ≤ 10) (fun p => 10 - p) 0 ?_ (by omega) ?_
    · (refine Sub.ofL [some 0, some 1] rfl (by simp) (by decide) (by simp [partL, AO.ro, AV.ro, AV.roL, names, AO.empty, SB, U8, SI, I64, STR] <;> (try and_intros) <;> rfl) (by simp [AO.bo, AV.bo, AV.boL, names] <;> (try and_intros) <;> rfl) ?_ <;> (try simp only [List.map_cons, List.map_nil, regsL, AV.ro, AV.roL, AV.bo, AV.boL, names, get_here, get_there, Nat.reduceBEq, List.getD_cons_zero, List.getD_cons_succ, List.getD_nil, and_true, true_and, Nat.reduceLT, List.length_cons, List.length_nil, Nat.reduceAdd, decide_true, Option.isSome_some, Bool.true_or, Bool.and_self, Option.isSome_none, Bool.false_or, beq_self_eq_true, wk0_self, wk0_nils]) <;> (try and_intros) <;> (first | done | rfl | exact .inl rfl | exact .inr ⟨rfl, _, _, rfl⟩ | (simp; done) | (simp; omega) | (refine .inl ?_; simp; done) | (refine .inl ?_; simp; omega)))
    intro p hp
    unfold cc4l0
    by_cases hpl : p < 10
    · have b1 := by_at f p 1 hpl (by simp)
      have b2 := by_at f p 2 hpl (by simp)
      have b3 := by_at f p 3 hpl (by simp)
      have b4 := by_at f p 4 hpl (by simp)
      have wr := wp_rng lb f rf p
      have r := rf p
      have r0 := mul_rng r.m0 r.m1 r.n0 r.n1
      have r1 := mul_rng r.c0 r.c1 r.n0 r.n1
      have e1 : Wp lb f (p + 1) = pendF lb (Wp lb f p) (f p) := rfl
      by_cases hlb : lb = (f p).label
      · have e2 : Wp lb f (p + 1) = ((Wp lb f p).1 + (f p).mem * (f p).count, (Wp lb f p).2 + (f p).cores * (f p).count) := by rw [e1]; unfold pendF; rw [if_pos hlb]
        simp -implicitDefEqProofs (maxSteps := 500000) (disch := first | decide | omega) only [↓preS, ↓reduceIte, allS, Nat.reduceBEq, Nat.reduceAdd, Nat.reduceEqDiff, reduceIte, Int.reduceToNat, Int.reduceLE, Int.reduceLT, Nat.reduceLeDiff, Nat.reduceMul, Nat.reducePow, Nat.reduceLT, Int.reduceBEq, Int.reduceBNe, Int.reduceAdd, Int.reduceSub, Int.reduceMul, Int.reduceGT, Int.reduceGE, decS, Int.reduceNe, Int.reduceEq, askS, askT, by_len, by_one, by_ok, by_ro, by_bo, b1, b2, b3, b4]
        and_intros
        all_goals first | omega | (refine ⟨p + 1, ?_, by omega, by omega⟩; rw [e2]; exact .inl rfl)
      · have e2 : Wp lb f (p + 1) = Wp lb f p := by rw [e1]; unfold pendF; rw [if_neg hlb]
        simp -implicitDefEqProofs (maxSteps := 500000) (disch := first | decide | omega) only [↓preS, ↓reduceIte, allS, Nat.reduceBEq, Nat.reduceAdd, Nat.reduceEqDiff, reduceIte, Int.reduceToNat, Int.reduceLE, Int.reduceLT, Nat.reduceLeDiff, Nat.reduceMul, Nat.reducePow, Nat.reduceLT, Int.reduceBEq, Int.reduceBNe, Int.reduceAdd, Int.reduceSub, Int.reduceMul, Int.reduceGT, Int.reduceGE, decS, Int.reduceNe, Int.reduceEq, askS, askT, by_len, by_one, by_ok, by_ro, by_bo, b1, b2, b3, b4]
        and_intros
        all_goals first | omega | (refine ⟨p + 1, ?_, by omega, by omega⟩; rw [e2]; exact .inl rfl)
    · have : p = 10 := by omega
      subst this
      rw [hend.symm]
      simp -implicitDefEqProofs (maxSteps := 500000) (disch := first | decide | omega) only [↓preS, ↓reduceIte, allS, Nat.reduceBEq, Nat.reduceAdd, Nat.reduceEqDiff, reduceIte, Int.reduceToNat, Int.reduceLE, Int.reduceLT, Nat.reduceLeDiff, Nat.reduceMul, Nat.reducePow, Nat.reduceLT, Int.reduceBEq, Int.reduceBNe, Int.reduceAdd, Int.reduceSub, Int.reduceMul, Int.reduceGT, Int.reduceGE, decS, Int.reduceNe, Int.reduceEq]
      refine ⟨?_, ?_⟩
      · refine acK_of (FCall.of (lent := false) (pend_ok false lb a (by omega) inv.rng) (.refl rfl) rfl (by simp)) ?_
        unfold VEC
        simp -implicitDefEqProofs (maxSteps := 500000) (disch := first | decide | omega) only [↓preS, ↓reduceIte, allS, Nat.reduceBEq, Nat.reduceAdd, Nat.reduceEqDiff, reduceIte, Int.reduceToNat, Int.reduceLE, Int.reduceLT, Nat.reduceLeDiff, Nat.reduceMul, Nat.reducePow, Nat.reduceLT, Int.reduceBEq, Int.reduceBNe, Int.reduceAdd, Int.reduceSub, Int.reduceMul, Int.reduceGT, Int.reduceGE, decS, Int.reduceNe, Int.reduceEq, seq_vec, beq_self_eq_true]
      · refine acK_of (FCall.of (lent := false) (pend_ok false lb a (by omega) inv.rng) (.refl rfl) rfl (by simp)) ?_
        unfold VEC
        simp -implicitDefEqProofs (maxSteps := 500000) (disch := first | decide | omega) only [↓preS, ↓reduceIte, allS, Nat.reduceBEq, Nat.reduceAdd, Nat.reduceEqDiff, reduceIte, Int.reduceToNat, Int.reduceLE, Int.reduceLT, Nat.reduceLeDiff, Nat.reduceMul, Nat.reducePow, Nat.reduceLT, Int.reduceBEq, Int.reduceBNe, Int.reduceAdd, Int.reduceSub, Int.reduceMul, Int.reduceGT, Int.reduceGE, decS, Int.reduceNe, Int.reduceEq, seq_vec, beq_self_eq_true])
end Go.Proofs.Ytglimfdofgadjaa
