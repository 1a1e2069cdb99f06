/- What functions of the program compute. No condition. -/
import Derived.Test.YtceifhcjbmodaaaP4
set_option linter.unusedSimpArgs false
set_option linter.unusedVariables false
namespace Go.Proofs.Ytceifhcjbmodaaa
open Go Go.Ab

/-! ### Paths -/
/-- The last place of a sign among the first n; -1: none. -/
def lastN (c : UInt8) (s : List UInt8) : Nat → Int
  | 0 => -1
  | n + 1 => if s.getD n 0 = c then (n : Int) else lastN c s n
theorem lastN_rng (c : UInt8) (s : List UInt8) : ∀ n, -1 ≤ lastN c s n ∧ lastN c s n < n
  | 0 => by simp [lastN]
  | n + 1 => by
    have := lastN_rng c s n
    unfold lastN
    split <;> omega
theorem u8_eq {a b : UInt8} : ((a.toNat : Int) = (b.toNat : Int)) ↔ a = b := by
  constructor
  · intro h
    exact UInt8.toNat_inj.1 (by omega)
  · rintro rfl; rfl
theorem last60 (s : List UInt8) (c : UInt8) (hs : s.length < 2 ^ 62) : PCall Try.prog 60 [.str s, .int .u8 c.toNat] (.int .i64 (lastN c s s.length)) := by
  unfold PCall
  refine acall_of is60 (by simp) ?_
  unfold cc60
  simp -implicitDefEqProofs (maxSteps := 500000) (disch := first | decide | omega) only [↓preS, ↓reduceIte, allS, Nat.reduceBEq, Nat.reduceAdd, Nat.reduceEqDiff, reduceIte, Int.reduceToNat, Int.reduceLE, Int.reduceLT, Nat.reduceLeDiff, Nat.reduceMul, Nat.reducePow, Nat.reduceLT, Int.reduceBEq, Int.reduceBNe, Int.reduceAdd, Int.reduceSub, Int.reduceMul, Int.reduceGT, Int.reduceGE, decS, Int.reduceNe, Int.reduceEq]
  unfold cc60L0
  simp -implicitDefEqProofs (maxSteps := 500000) (disch := first | decide | omega) only [↓preS, ↓reduceIte, allS, Nat.reduceBEq, Nat.reduceAdd, Nat.reduceEqDiff, reduceIte, Int.reduceToNat, Int.reduceLE, Int.reduceLT, Nat.reduceLeDiff, Nat.reduceMul, Nat.reducePow, Nat.reduceLT, Int.reduceBEq, Int.reduceBNe, Int.reduceAdd, Int.reduceSub, Int.reduceMul, Int.reduceGT, Int.reduceGE, decS, Int.reduceNe, Int.reduceEq]
  refine aw_loopS (σ := Nat) (fun n => ⟨[(0, .str s), (1, .int .u8 c.toNat), (5, .int .i64 ((n : Int) - 1))], []⟩) (fun n => n ≤ s.length ∧ lastN c s s.length = lastN c s n) (fun n => n) s.length (.inl rfl) ⟨by omega, rfl⟩ ?_
  rintro n ⟨hn, hl⟩
  unfold cc60l0
  cases n with
  | zero =>
    simp -implicitDefEqProofs (maxSteps := 500000) (disch := first | decide | omega) only [↓preS, ↓reduceIte, allS, Nat.reduceBEq, Nat.reduceAdd, Nat.reduceEqDiff, reduceIte, Int.reduceToNat, Int.reduceLE, Int.reduceLT, Nat.reduceLeDiff, Nat.reduceMul, Nat.reducePow, Nat.reduceLT, Int.reduceBEq, Int.reduceBNe, Int.reduceAdd, Int.reduceSub, Int.reduceMul, Int.reduceGT, Int.reduceGE, decS, Int.reduceNe, Int.reduceEq]
    rw [hl]
    rfl
  | succ n =>
    have e : ((n + 1 : Nat) : Int) - 1 = n := by omega
    rw [e]
    simp -implicitDefEqProofs (maxSteps := 500000) (disch := first | decide | omega) only [↓preS, ↓reduceIte, allS, Nat.reduceBEq, Nat.reduceAdd, Nat.reduceEqDiff, reduceIte, Int.reduceToNat, Int.reduceLE, Int.reduceLT, Nat.reduceLeDiff, Nat.reduceMul, Nat.reducePow, Nat.reduceLT, Int.reduceBEq, Int.reduceBNe, Int.reduceAdd, Int.reduceSub, Int.reduceMul, Int.reduceGT, Int.reduceGE, decS, Int.reduceNe, Int.reduceEq]
    refine ⟨by omega, ?_⟩
    by_cases hc : s.getD n 0 = c
    · have hc2 : ((s.getD n 0).toNat : Int) = (c.toNat : Int) := by rw [hc]
      simp -implicitDefEqProofs (maxSteps := 500000) (disch := first | decide | omega) only [↓preS, ↓reduceIte, allS, Nat.reduceBEq, Nat.reduceAdd, Nat.reduceEqDiff, reduceIte, Int.reduceToNat, Int.reduceLE, Int.reduceLT, Nat.reduceLeDiff, Nat.reduceMul, Nat.reducePow, Nat.reduceLT, Int.reduceBEq, Int.reduceBNe, Int.reduceAdd, Int.reduceSub, Int.reduceMul, Int.reduceGT, Int.reduceGE, decS, Int.reduceNe, Int.reduceEq]
      refine ⟨by omega, ?_⟩
      rw [hl]
      unfold lastN
      rw [if_pos hc]
    · have hc2 : ¬ ((s.getD n 0).toNat : Int) = (c.toNat : Int) := fun h => hc (u8_eq.1 h)
      simp -implicitDefEqProofs (maxSteps := 500000) (disch := first | decide | omega) only [↓preS, ↓reduceIte, allS, Nat.reduceBEq, Nat.reduceAdd, Nat.reduceEqDiff, reduceIte, Int.reduceToNat, Int.reduceLE, Int.reduceLT, Nat.reduceLeDiff, Nat.reduceMul, Nat.reducePow, Nat.reduceLT, Int.reduceBEq, Int.reduceBNe, Int.reduceAdd, Int.reduceSub, Int.reduceMul, Int.reduceGT, Int.reduceGE, decS, Int.reduceNe, Int.reduceEq]
      refine ⟨by omega, n, .inl rfl, ⟨by omega, ?_⟩, by omega⟩
      rw [hl]
      conv => lhs; unfold lastN
      rw [if_neg hc]
def dot : UInt8 := 46
def dotL (s : List UInt8) : Int := lastN dot s s.length
theorem dotL_rng (s : List UInt8) : -1 ≤ dotL s ∧ dotL s < s.length := lastN_rng _ _ _
theorem last55 (s : List UInt8) (hs : s.length < 2 ^ 62) : PCall Try.prog 55 [.str s, .str [46]] (.int .i64 (dotL s)) := by
  unfold PCall
  refine acall_of is55 (by simp) ?_
  unfold cc55
  simp -implicitDefEqProofs (maxSteps := 500000) (disch := first | decide | omega) only [↓preS, ↓reduceIte, allS, Nat.reduceBEq, Nat.reduceAdd, Nat.reduceEqDiff, reduceIte, Int.reduceToNat, Int.reduceLE, Int.reduceLT, Nat.reduceLeDiff, Nat.reduceMul, Nat.reducePow, Nat.reduceLT, Int.reduceBEq, Int.reduceBNe, Int.reduceAdd, Int.reduceSub, Int.reduceMul, Int.reduceGT, Int.reduceGE, decS, Int.reduceNe, Int.reduceEq]
  refine acK_of (FCall.of (lent := false) (last60 s dot hs) (.refl rfl) rfl (by simp)) ?_
  simp -implicitDefEqProofs (maxSteps := 500000) (disch := first | decide | omega) only [↓preS, ↓reduceIte, allS, Nat.reduceBEq, Nat.reduceAdd, Nat.reduceEqDiff, reduceIte, Int.reduceToNat, Int.reduceLE, Int.reduceLT, Nat.reduceLeDiff, Nat.reduceMul, Nat.reducePow, Nat.reduceLT, Int.reduceBEq, Int.reduceBNe, Int.reduceAdd, Int.reduceSub, Int.reduceMul, Int.reduceGT, Int.reduceGE, decS, Int.reduceNe, Int.reduceEq]
  rfl
def aboveP (s : List UInt8) : List UInt8 × Bool := if dotL s < 0 then ([], false) else (s.take (dotL s).toNat, true)
theorem above_ok (s : List UInt8) (hs : s.length < 2 ^ 62) : PCall Try.prog 46 [.str s] (.tup [.str (aboveP s).1, .bool (aboveP s).2]) := by
  unfold PCall
  refine acall_of is46 (by simp) ?_
  unfold cc46
  simp -implicitDefEqProofs (maxSteps := 500000) (disch := first | decide | omega) only [↓preS, ↓reduceIte, allS, Nat.reduceBEq, Nat.reduceAdd, Nat.reduceEqDiff, reduceIte, Int.reduceToNat, Int.reduceLE, Int.reduceLT, Nat.reduceLeDiff, Nat.reduceMul, Nat.reducePow, Nat.reduceLT, Int.reduceBEq, Int.reduceBNe, Int.reduceAdd, Int.reduceSub, Int.reduceMul, Int.reduceGT, Int.reduceGE, decS, Int.reduceNe, Int.reduceEq]
  refine acK_of (FCall.of (lent := false) (last55 s hs) (.refl rfl) rfl (by simp)) ?_
  have hr := dotL_rng s
  unfold aboveP
  by_cases h : dotL s < 0
  · rw [if_pos h]
    simp -implicitDefEqProofs (maxSteps := 500000) (disch := first | decide | omega) only [↓preS, ↓reduceIte, allS, Nat.reduceBEq, Nat.reduceAdd, Nat.reduceEqDiff, reduceIte, Int.reduceToNat, Int.reduceLE, Int.reduceLT, Nat.reduceLeDiff, Nat.reduceMul, Nat.reducePow, Nat.reduceLT, Int.reduceBEq, Int.reduceBNe, Int.reduceAdd, Int.reduceSub, Int.reduceMul, Int.reduceGT, Int.reduceGE, decS, Int.reduceNe, Int.reduceEq]
  · rw [if_neg h]
    simp -implicitDefEqProofs (maxSteps := 500000) (disch := first | decide | omega) only [↓preS, ↓reduceIte, allS, Nat.reduceBEq, Nat.reduceAdd, Nat.reduceEqDiff, reduceIte, Int.reduceToNat, Int.reduceLE, Int.reduceLT, Nat.reduceLeDiff, Nat.reduceMul, Nat.reducePow, Nat.reduceLT, Int.reduceBEq, Int.reduceBNe, Int.reduceAdd, Int.reduceSub, Int.reduceMul, Int.reduceGT, Int.reduceGE, decS, Int.reduceNe, Int.reduceEq]
    repeat' first | omega | apply And.intro
theorem above_len (s : List UInt8) (h : s ≠ []) : (aboveP s).1.length < s.length := by
  have hr := dotL_rng s
  have hp := List.length_pos_iff.2 h
  unfold aboveP
  split
  · simpa using hp
  · simp; omega
/-! ### Find, Kids, Leaf -/
def pathP (p : List UInt8) (q : Queue) : Bool := q.path == p
theorem is45_ok (x : Queue) (p : List UInt8) : ACall Try.prog 45 [QUE x, .ref 0 0 0] [.box [.str p]] fun y G => y = .bool (pathP p x) ∧ G = [.box [.str p]] := by
  have key : ACall Try.prog 45 [QUE x, .ref 0 0 0] [.box [.str p]] fun y G => y = .bool (pathP p x) ∧ ∃ o, G = [.box [.str p], o] := by
    refine acall_at is45 (by simp) rfl ?_
    unfold cc45
    simp -implicitDefEqProofs (maxSteps := 500000) (disch := first | decide | omega) only [↓preS, ↓reduceIte, allS, Nat.reduceBEq, Nat.reduceAdd, Nat.reduceEqDiff, reduceIte, Int.reduceToNat, Int.reduceLE, Int.reduceLT, Nat.reduceLeDiff, Nat.reduceMul, Nat.reducePow, Nat.reduceLT, Int.reduceBEq, Int.reduceBNe, Int.reduceAdd, Int.reduceSub, Int.reduceMul, Int.reduceGT, Int.reduceGE, decS, Int.reduceNe, Int.reduceEq, queS]
    exact ⟨rfl, _, rfl⟩
  refine key.sub ?_
  rintro y G ⟨rfl, o, rfl⟩
  refine ⟨_, _, ?_, rfl, rfl⟩
  (refine Sub.ofL [some 0] rfl (by simp) (by decide) (by simp [partL, AO.ro, AV.ro, AV.roL, names, AO.empty, SB, U8, SI, I64, STR] <;> (try and_intros) <;> rfl) (by simp [AO.bo, AV.bo, AV.boL, names] <;> (try and_intros) <;> rfl) ?_ <;> (try simp only [List.map_cons, List.map_nil, regsL, AV.ro, AV.roL, AV.bo, AV.boL, names, get_here, get_there, Nat.reduceBEq, List.getD_cons_zero, List.getD_cons_succ, List.getD_nil, and_true, true_and, Nat.reduceLT, List.length_cons, List.length_nil, Nat.reduceAdd, decide_true, Option.isSome_some, Bool.true_or, Bool.and_self, Option.isSome_none, Bool.false_or, beq_self_eq_true, wk0_self, wk0_nils]) <;> (try and_intros) <;> (first | done | rfl | exact .inl rfl | exact .inr ⟨rfl, _, _, rfl⟩ | (simp; done) | (simp; omega) | (refine .inl ?_; simp; done) | (refine .inl ?_; simp; omega)))
def FN45 : AV := .fn (.func 45) [] [.ref 0 0 0]
set_option maxHeartbeats 1000000 in
theorem idx44 (t : Bool) (p : List UInt8) (l : List Queue) (hl : l.length < 2 ^ 63) : ACall Try.prog 44 [.sl t 3 (l.map QUE), FN45] [.box [.str p]] fun y G => y = .int .i64 (idxI (pathP p) l) ∧ G = [.box [.str p]] := by
  refine acall_at is44 (by simp) rfl ?_
  unfold cc44 FN45
  simp -implicitDefEqProofs (maxSteps := 500000) (disch := first | decide | omega) only [↓preS, ↓reduceIte, allS, Nat.reduceBEq, Nat.reduceAdd, Nat.reduceEqDiff, reduceIte, Int.reduceToNat, Int.reduceLE, Int.reduceLT, Nat.reduceLeDiff, Nat.reduceMul, Nat.reducePow, Nat.reduceLT, Int.reduceBEq, Int.reduceBNe, Int.reduceAdd, Int.reduceSub, Int.reduceMul, Int.reduceGT, Int.reduceGE, decS, Int.reduceNe, Int.reduceEq]
  unfold cc44L0
  simp -implicitDefEqProofs (maxSteps := 500000) (disch := first | decide | omega) only [↓preS, ↓reduceIte, allS, Nat.reduceBEq, Nat.reduceAdd, Nat.reduceEqDiff, reduceIte, Int.reduceToNat, Int.reduceLE, Int.reduceLT, Nat.reduceLeDiff, Nat.reduceMul, Nat.reducePow, Nat.reduceLT, Int.reduceBEq, Int.reduceBNe, Int.reduceAdd, Int.reduceSub, Int.reduceMul, Int.reduceGT, Int.reduceGE, decS, Int.reduceNe, Int.reduceEq]
  refine aw_loopS (σ := Nat) (fun i => ⟨[(0, .sl t 3 (l.map QUE)), (1, .fn (.func 45) [] [.ref 0 0 0]), (7, .int .i64 (l.length : Int)), (8, .int .i64 (i : Int))], [.box [.str p]]⟩)
    (fun i => i ≤ l.length ∧ ∀ j, (h : j < i) → (h2 : j < l.length) → pathP p l[j] = false) (fun i => l.length - i) 0 (.inl rfl) ⟨by omega, fun j h => by omega⟩ ?_
  rintro i ⟨hii, hn⟩
  unfold cc44l0
  by_cases hil : i < l.length
  · have hg : l.getD i default = l[i] := by simp [hil]
    simp -implicitDefEqProofs (maxSteps := 500000) (disch := first | decide | omega) only [↓preS, ↓reduceIte, allS, Nat.reduceBEq, Nat.reduceAdd, Nat.reduceEqDiff, reduceIte, Int.reduceToNat, Int.reduceLE, Int.reduceLT, Nat.reduceLeDiff, Nat.reduceMul, Nat.reducePow, Nat.reduceLT, Int.reduceBEq, Int.reduceBNe, Int.reduceAdd, Int.reduceSub, Int.reduceMul, Int.reduceGT, Int.reduceGE, decS, Int.reduceNe, Int.reduceEq, queS]
    refine ⟨by omega, by omega, ?_⟩
    refine (is45_ok _ p).to ?_
    rintro y G ⟨rfl, rfl⟩
    rw [hg]
    cases hp : pathP p l[i]
    · simp -implicitDefEqProofs (maxSteps := 500000) (disch := first | decide | omega) only [↓preS, ↓reduceIte, allS, Nat.reduceBEq, Nat.reduceAdd, Nat.reduceEqDiff, reduceIte, Int.reduceToNat, Int.reduceLE, Int.reduceLT, Nat.reduceLeDiff, Nat.reduceMul, Nat.reducePow, Nat.reduceLT, Int.reduceBEq, Int.reduceBNe, Int.reduceAdd, Int.reduceSub, Int.reduceMul, Int.reduceGT, Int.reduceGE, decS, Int.reduceNe, Int.reduceEq]
      refine ⟨i + 1, .inl rfl, ⟨by omega, fun j h h2 => ?_⟩, by omega⟩
      by_cases hj : j = i
      · subst hj; exact hp
      · exact hn j (by omega) h2
    · simp -implicitDefEqProofs (maxSteps := 500000) (disch := first | decide | omega) only [↓preS, ↓reduceIte, allS, Nat.reduceBEq, Nat.reduceAdd, Nat.reduceEqDiff, reduceIte, Int.reduceToNat, Int.reduceLE, Int.reduceLT, Nat.reduceLeDiff, Nat.reduceMul, Nat.reducePow, Nat.reduceLT, Int.reduceBEq, Int.reduceBNe, Int.reduceAdd, Int.reduceSub, Int.reduceMul, Int.reduceGT, Int.reduceGE, decS, Int.reduceNe, Int.reduceEq]
      rw [idx_at hil (fun j hj => hn j hj (by omega)) hp]
  · have : i = l.length := by omega
    subst this
    simp -implicitDefEqProofs (maxSteps := 500000) (disch := first | decide | omega) only [↓preS, ↓reduceIte, allS, Nat.reduceBEq, Nat.reduceAdd, Nat.reduceEqDiff, reduceIte, Int.reduceToNat, Int.reduceLE, Int.reduceLT, Nat.reduceLeDiff, Nat.reduceMul, Nat.reducePow, Nat.reduceLT, Int.reduceBEq, Int.reduceBNe, Int.reduceAdd, Int.reduceSub, Int.reduceMul, Int.reduceGT, Int.reduceGE, decS, Int.reduceNe, Int.reduceEq]
    rw [idx_no fun j hj => hn j hj hj]
def CONF (tl tq : Bool) (ls : List (List UInt8)) (qs : List Queue) : AV := .agg [.sl tl 1 (ls.map AV.str), .sl tq 3 (qs.map QUE)]
set_option maxHeartbeats 1000000 in
theorem find_ok (tl tq : Bool) (ls : List (List UInt8)) (qs : List Queue) (p : List UInt8) (hl : qs.length < 2 ^ 63) (i : Nat) (hi : i < qs.length) (h : idxI (pathP p) qs = (i : Int)) (hc : qs[i].caps.length ≤ 2 ^ 36) :
    PCall Try.prog 34 [CONF tl tq ls qs, .str p] (.tup [QUE qs[i], .bool true]) := by
  unfold PCall
  have hg : qs.getD i default = qs[i] := by simp [hi]
  refine acallR_of isR34 (by simp) ?_
  unfold cc34 CONF
  simp -implicitDefEqProofs (maxSteps := 500000) (disch := first | decide | omega) only [↓preS, ↓reduceIte, allS, Nat.reduceBEq, Nat.reduceAdd, Nat.reduceEqDiff, reduceIte, Int.reduceToNat, Int.reduceLE, Int.reduceLT, Nat.reduceLeDiff, Nat.reduceMul, Nat.reducePow, Nat.reduceLT, Int.reduceBEq, Int.reduceBNe, Int.reduceAdd, Int.reduceSub, Int.reduceMul, Int.reduceGT, Int.reduceGE, decS, Int.reduceNe, Int.reduceEq]
  refine ((idx44 tq p qs hl).frame [1] rfl (by simp) (by simp) ?_ rfl).to ?_
  · intro k o hk
    match k, hk with
    | 0, hk => simp only [List.getElem?_cons_zero, Option.some.injEq] at hk; subst hk; exact ⟨rfl, rfl⟩
    | k + 1, hk => simp at hk
  rintro y G ⟨y0, Hr, ⟨rfl, rfl⟩, rfl, rfl⟩
  rw [h]
  simp -implicitDefEqProofs (maxSteps := 500000) (disch := first | decide | omega) only [↓preS, ↓reduceIte, allS, Nat.reduceBEq, Nat.reduceAdd, Nat.reduceEqDiff, reduceIte, Int.reduceToNat, Int.reduceLE, Int.reduceLT, Nat.reduceLeDiff, Nat.reduceMul, Nat.reducePow, Nat.reduceLT, Int.reduceBEq, Int.reduceBNe, Int.reduceAdd, Int.reduceSub, Int.reduceMul, Int.reduceGT, Int.reduceGE, decS, Int.reduceNe, Int.reduceEq, AV.ren, AO.ren, spl, setAll, queS, hg, List.append_nil]
  refine ⟨by omega, by omega, ?_⟩
  refine acK_of (FCall.of (lent := false) (cl27 false _ hc) (.refl rfl) rfl (by simp)) ?_
  simp -implicitDefEqProofs (maxSteps := 500000) (disch := first | decide | omega) only [↓preS, ↓reduceIte, allS, Nat.reduceBEq, Nat.reduceAdd, Nat.reduceEqDiff, reduceIte, Int.reduceToNat, Int.reduceLE, Int.reduceLT, Nat.reduceLeDiff, Nat.reduceMul, Nat.reducePow, Nat.reduceLT, Int.reduceBEq, Int.reduceBNe, Int.reduceAdd, Int.reduceSub, Int.reduceMul, Int.reduceGT, Int.reduceGE, decS, Int.reduceNe, Int.reduceEq, queS, queT, List.append_nil]
def NOQ : AV := .agg [.str [], .nils, .int .i64 0]
set_option maxHeartbeats 1000000 in
theorem find_no (tl tq : Bool) (ls : List (List UInt8)) (qs : List Queue) (p : List UInt8) (hl : qs.length < 2 ^ 63) (h : idxI (pathP p) qs = -1) :
    PCall Try.prog 34 [CONF tl tq ls qs, .str p] (.tup [NOQ, .bool false]) := by
  unfold PCall
  refine acallR_of isR34 (by simp) ?_
  unfold cc34 CONF NOQ
  simp -implicitDefEqProofs (maxSteps := 500000) (disch := first | decide | omega) only [↓preS, ↓reduceIte, allS, Nat.reduceBEq, Nat.reduceAdd, Nat.reduceEqDiff, reduceIte, Int.reduceToNat, Int.reduceLE, Int.reduceLT, Nat.reduceLeDiff, Nat.reduceMul, Nat.reducePow, Nat.reduceLT, Int.reduceBEq, Int.reduceBNe, Int.reduceAdd, Int.reduceSub, Int.reduceMul, Int.reduceGT, Int.reduceGE, decS, Int.reduceNe, Int.reduceEq]
  refine ((idx44 tq p qs hl).frame [1] rfl (by simp) (by simp) ?_ rfl).to ?_
  · intro k o hk
    match k, hk with
    | 0, hk => simp only [List.getElem?_cons_zero, Option.some.injEq] at hk; subst hk; exact ⟨rfl, rfl⟩
    | k + 1, hk => simp at hk
  rintro y G ⟨y0, Hr, ⟨rfl, rfl⟩, rfl, rfl⟩
  rw [h]
  simp -implicitDefEqProofs (maxSteps := 500000) (disch := first | decide | omega) only [↓preS, ↓reduceIte, allS, Nat.reduceBEq, Nat.reduceAdd, Nat.reduceEqDiff, reduceIte, Int.reduceToNat, Int.reduceLE, Int.reduceLT, Nat.reduceLeDiff, Nat.reduceMul, Nat.reducePow, Nat.reduceLT, Int.reduceBEq, Int.reduceBNe, Int.reduceAdd, Int.reduceSub, Int.reduceMul, Int.reduceGT, Int.reduceGE, decS, Int.reduceNe, Int.reduceEq, AV.ren, AO.ren, spl, setAll, fillOk, fillAV]
def kidP (p : List UInt8) (q : Queue) : Bool := (aboveP q.path).2 && (aboveP q.path).1 == p
def kidsL (p : List UInt8) (qs : List Queue) : List (List UInt8) := (qs.filter (kidP p)).map Queue.path
set_option maxHeartbeats 2000000 in
theorem kids_ok (tl tq : Bool) (ls : List (List UInt8)) (qs : List Queue) (p : List UInt8) (hl : qs.length ≤ 2 ^ 40) (hq : ∀ q ∈ qs, QOk q) :
    PCall Try.prog 35 [CONF tl tq ls qs, .str p] (.sl false 1 ((kidsL p qs).map AV.str)) := by
  refine PCall.wk3 (acall_of is35 (by simp) ?_)
  unfold cc35 CONF
  simp -implicitDefEqProofs (maxSteps := 500000) (disch := first | decide | omega) only [↓preS, ↓reduceIte, allS, Nat.reduceBEq, Nat.reduceAdd, Nat.reduceEqDiff, reduceIte, Int.reduceToNat, Int.reduceLE, Int.reduceLT, Nat.reduceLeDiff, Nat.reduceMul, Nat.reducePow, Nat.reduceLT, Int.reduceBEq, Int.reduceBNe, Int.reduceAdd, Int.reduceSub, Int.reduceMul, Int.reduceGT, Int.reduceGE, decS, Int.reduceNe, Int.reduceEq]
  unfold cc35L0
  simp -implicitDefEqProofs (maxSteps := 500000) (disch := first | decide | omega) only [↓preS, ↓reduceIte, allS, Nat.reduceBEq, Nat.reduceAdd, Nat.reduceEqDiff, reduceIte, Int.reduceToNat, Int.reduceLE, Int.reduceLT, Nat.reduceLeDiff, Nat.reduceMul, Nat.reducePow, Nat.reduceLT, Int.reduceBEq, Int.reduceBNe, Int.reduceAdd, Int.reduceSub, Int.reduceMul, Int.reduceGT, Int.reduceGE, decS, Int.reduceNe, Int.reduceEq]
  refine aw_loopS (σ := Nat) (fun i => ⟨[(1, .str p), (5, .own 1 1 0 (kidsL p (qs.take i)).length), (11, .sl tq 3 (qs.map QUE)), (12, .int .i64 (qs.length : Int)), (13, .int .i64 (i : Int))], [.box [.sl tl 1 (ls.map AV.str), .sl tq 3 (qs.map QUE)], .arr 1 ((kidsL p (qs.take i)).map AV.str)]⟩)
    (fun i => i ≤ qs.length) (fun i => qs.length - i) 0 ?_ (by omega) ?_
  · simp only [List.take_zero, kidsL, List.filter_nil, List.map_nil, List.length_nil]
    (refine Sub.ofL [some 0, none] rfl (by simp) (by decide) (by simp [partL, AO.ro, AV.ro, AV.roL, names, AO.empty, SB, U8, SI, I64, STR] <;> (try and_intros) <;> rfl) (by simp [AO.bo, AV.bo, AV.boL, names] <;> (try and_intros) <;> rfl) ?_ <;> (try simp only [List.map_cons, List.map_nil, regsL, AV.ro, AV.roL, AV.bo, AV.boL, names, get_here, get_there, Nat.reduceBEq, List.getD_cons_zero, List.getD_cons_succ, List.getD_nil, and_true, true_and, Nat.reduceLT, List.length_cons, List.length_nil, Nat.reduceAdd, decide_true, Option.isSome_some, Bool.true_or, Bool.and_self, Option.isSome_none, Bool.false_or, beq_self_eq_true, wk0_self, wk0_nils]) <;> (try and_intros) <;> (first | done | rfl | exact .inl rfl | exact .inr ⟨rfl, _, _, rfl⟩ | (simp; done) | (simp; omega) | (refine .inl ?_; simp; done) | (refine .inl ?_; simp; omega)))
  intro i hii
  unfold cc35l0
  have hlen : (kidsL p (qs.take i)).length ≤ i := by
    unfold kidsL
    rw [List.length_map]
    exact Nat.le_trans (List.length_filter_le _ _) (by simp; omega)
  by_cases hil : i < qs.length
  · have hg : qs.getD i default = qs[i] := by simp [hil]
    have hx := hq _ (List.getElem_mem hil)
    have e1 : kidsL p (qs.take (i + 1)) = kidsL p (qs.take i) ++ (if kidP p qs[i] then [qs[i].path] else []) := by
      unfold kidsL
      rw [List.take_succ_eq_append_getElem hil, List.filter_append, List.map_append]
      congr 1
      simp only [List.filter_cons, List.filter_nil]
      split <;> rfl
    generalize kidsL p (qs.take i) = m at e1 hlen
    have hk : kidP p qs[i] = ((aboveP qs[i].path).2 && (aboveP qs[i].path).1 == p) := rfl
    have ha := above_ok qs[i].path (by have := hx.path; omega)
    generalize aboveP qs[i].path = ab at hk ha
    obtain ⟨up, has⟩ := ab
    simp only at hk ha
    simp -implicitDefEqProofs (maxSteps := 500000) (disch := first | decide | omega) only [↓preS, ↓reduceIte, allS, Nat.reduceBEq, Nat.reduceAdd, Nat.reduceEqDiff, reduceIte, Int.reduceToNat, Int.reduceLE, Int.reduceLT, Nat.reduceLeDiff, Nat.reduceMul, Nat.reducePow, Nat.reduceLT, Int.reduceBEq, Int.reduceBNe, Int.reduceAdd, Int.reduceSub, Int.reduceMul, Int.reduceGT, Int.reduceGE, decS, Int.reduceNe, Int.reduceEq, queS, hg, List.append_nil]
    refine ⟨by omega, by omega, ?_⟩
    refine acK_of (FCall.of (lent := false) (ha) (.refl rfl) rfl (by simp)) ?_
    cases has with
    | false =>
      rw [Bool.false_and] at hk
      rw [hk] at e1
      simp only [Bool.false_eq_true, if_false, List.append_nil] at e1
      simp -implicitDefEqProofs (maxSteps := 500000) (disch := first | decide | omega) only [↓preS, ↓reduceIte, allS, Nat.reduceBEq, Nat.reduceAdd, Nat.reduceEqDiff, reduceIte, Int.reduceToNat, Int.reduceLE, Int.reduceLT, Nat.reduceLeDiff, Nat.reduceMul, Nat.reducePow, Nat.reduceLT, Int.reduceBEq, Int.reduceBNe, Int.reduceAdd, Int.reduceSub, Int.reduceMul, Int.reduceGT, Int.reduceGE, decS, Int.reduceNe, Int.reduceEq]
      refine ⟨i + 1, ?_, by omega, by omega⟩
      rw [e1]
      (refine Sub.ofL [some 0, some 1] rfl (by simp) (by decide) (by simp [partL, AO.ro, AV.ro, AV.roL, names, AO.empty, SB, U8, SI, I64, STR] <;> (try and_intros) <;> rfl) (by simp [AO.bo, AV.bo, AV.boL, names] <;> (try and_intros) <;> rfl) ?_ <;> (try simp only [List.map_cons, List.map_nil, regsL, AV.ro, AV.roL, AV.bo, AV.boL, names, get_here, get_there, Nat.reduceBEq, List.getD_cons_zero, List.getD_cons_succ, List.getD_nil, and_true, true_and, Nat.reduceLT, List.length_cons, List.length_nil, Nat.reduceAdd, decide_true, Option.isSome_some, Bool.true_or, Bool.and_self, Option.isSome_none, Bool.false_or, beq_self_eq_true, wk0_self, wk0_nils]) <;> (try and_intros) <;> (first | done | rfl | exact .inl rfl | exact .inr ⟨rfl, _, _, rfl⟩ | (simp; done) | (simp; omega) | (refine .inl ?_; simp; done) | (refine .inl ?_; simp; omega)))
    | true =>
      rw [Bool.true_and] at hk
      cases hb : (up == p) with
      | false =>
        rw [hb] at hk
        rw [hk] at e1
        simp only [Bool.false_eq_true, if_false, List.append_nil] at e1
        simp -implicitDefEqProofs (maxSteps := 500000) (disch := first | decide | omega) only [↓preS, ↓reduceIte, allS, Nat.reduceBEq, Nat.reduceAdd, Nat.reduceEqDiff, reduceIte, Int.reduceToNat, Int.reduceLE, Int.reduceLT, Nat.reduceLeDiff, Nat.reduceMul, Nat.reducePow, Nat.reduceLT, Int.reduceBEq, Int.reduceBNe, Int.reduceAdd, Int.reduceSub, Int.reduceMul, Int.reduceGT, Int.reduceGE, decS, Int.reduceNe, Int.reduceEq, hb]
        refine ⟨i + 1, ?_, by omega, by omega⟩
        rw [e1]
        (refine Sub.ofL [some 0, some 1] rfl (by simp) (by decide) (by simp [partL, AO.ro, AV.ro, AV.roL, names, AO.empty, SB, U8, SI, I64, STR] <;> (try and_intros) <;> rfl) (by simp [AO.bo, AV.bo, AV.boL, names] <;> (try and_intros) <;> rfl) ?_ <;> (try simp only [List.map_cons, List.map_nil, regsL, AV.ro, AV.roL, AV.bo, AV.boL, names, get_here, get_there, Nat.reduceBEq, List.getD_cons_zero, List.getD_cons_succ, List.getD_nil, and_true, true_and, Nat.reduceLT, List.length_cons, List.length_nil, Nat.reduceAdd, decide_true, Option.isSome_some, Bool.true_or, Bool.and_self, Option.isSome_none, Bool.false_or, beq_self_eq_true, wk0_self, wk0_nils]) <;> (try and_intros) <;> (first | done | rfl | exact .inl rfl | exact .inr ⟨rfl, _, _, rfl⟩ | (simp; done) | (simp; omega) | (refine .inl ?_; simp; done) | (refine .inl ?_; simp; omega)))
      | true =>
        rw [hb] at hk
        rw [hk] at e1
        simp only [if_true] at e1
        simp -implicitDefEqProofs (maxSteps := 500000) (disch := first | decide | omega) only [↓preS, ↓reduceIte, allS, Nat.reduceBEq, Nat.reduceAdd, Nat.reduceEqDiff, reduceIte, Int.reduceToNat, Int.reduceLE, Int.reduceLT, Nat.reduceLeDiff, Nat.reduceMul, Nat.reducePow, Nat.reduceLT, Int.reduceBEq, Int.reduceBNe, Int.reduceAdd, Int.reduceSub, Int.reduceMul, Int.reduceGT, Int.reduceGE, decS, Int.reduceNe, Int.reduceEq, hb, queS]
        refine ⟨by omega, i + 1, ?_, by omega, by omega⟩
        rw [e1]
        simp only [List.map_append, List.map_cons, List.map_nil, List.length_append, List.length_cons, List.length_nil]
        (refine Sub.ofL [some 0, some 4] rfl (by simp) (by decide) (by simp [partL, AO.ro, AV.ro, AV.roL, names, AO.empty, SB, U8, SI, I64, STR] <;> (try and_intros) <;> rfl) (by simp [AO.bo, AV.bo, AV.boL, names] <;> (try and_intros) <;> rfl) ?_ <;> (try simp only [List.map_cons, List.map_nil, regsL, AV.ro, AV.roL, AV.bo, AV.boL, names, get_here, get_there, Nat.reduceBEq, List.getD_cons_zero, List.getD_cons_succ, List.getD_nil, and_true, true_and, Nat.reduceLT, List.length_cons, List.length_nil, Nat.reduceAdd, decide_true, Option.isSome_some, Bool.true_or, Bool.and_self, Option.isSome_none, Bool.false_or, beq_self_eq_true, wk0_self, wk0_nils]) <;> (try and_intros) <;> (first | done | rfl | exact .inl rfl | exact .inr ⟨rfl, _, _, rfl⟩ | (simp; done) | (simp; omega) | (refine .inl ?_; simp; done) | (refine .inl ?_; simp; omega)))
  · have : i = qs.length := by omega
    subst this
    rw [List.take_length]
    simp -implicitDefEqProofs (maxSteps := 500000) (disch := first | decide | omega) only [↓preS, ↓reduceIte, allS, Nat.reduceBEq, Nat.reduceAdd, Nat.reduceEqDiff, reduceIte, Int.reduceToNat, Int.reduceLE, Int.reduceLT, Nat.reduceLeDiff, Nat.reduceMul, Nat.reducePow, Nat.reduceLT, Int.reduceBEq, Int.reduceBNe, Int.reduceAdd, Int.reduceSub, Int.reduceMul, Int.reduceGT, Int.reduceGE, decS, Int.reduceNe, Int.reduceEq]
    exact .inl (.inl (.inl rfl))
theorem idx_cases0 {α : Type} (p : α → Bool) (l : List α) : (idxI p l = -1 ∧ l.any p = false) ∨ ∃ i : Nat, ∃ h : i < l.length, idxI p l = (i : Int) ∧ l.any p = true := by
  rcases idx_cases p l with ⟨h1, h2⟩ | ⟨i, hi, h1, h2, h3⟩
  · exact .inl ⟨h1, List.any_eq_false.2 fun x hx => by rw [h2 x hx]; simp⟩
  · exact .inr ⟨i, hi, h1, List.any_eq_true.2 ⟨_, List.getElem_mem hi, h2⟩⟩
def leafP (p : List UInt8) (qs : List Queue) : Bool := qs.any (pathP p) && (kidsL p qs).isEmpty
set_option maxHeartbeats 2000000 in
theorem leaf_ok (tl tq : Bool) (ls : List (List UInt8)) (qs : List Queue) (p : List UInt8) (hl : qs.length ≤ 2 ^ 40) (hq : ∀ q ∈ qs, QOk q) :
    PCall Try.prog 17 [CONF tl tq ls qs, .str p] (.bool (leafP p qs)) := by
  unfold PCall
  refine acall_of is17 (by simp) ?_
  have hf := fun h => find_no tl tq ls qs p (by omega) h
  have hf2 := fun i hi h hc => find_ok tl tq ls qs p (by omega) i hi h hc
  have hk := kids_ok tl tq ls qs p hl hq
  unfold leafP
  unfold cc17
  unfold CONF at hf hf2 hk ⊢
  simp -implicitDefEqProofs (maxSteps := 500000) (disch := first | decide | omega) only [↓preS, ↓reduceIte, allS, Nat.reduceBEq, Nat.reduceAdd, Nat.reduceEqDiff, reduceIte, Int.reduceToNat, Int.reduceLE, Int.reduceLT, Nat.reduceLeDiff, Nat.reduceMul, Nat.reducePow, Nat.reduceLT, Int.reduceBEq, Int.reduceBNe, Int.reduceAdd, Int.reduceSub, Int.reduceMul, Int.reduceGT, Int.reduceGE, decS, Int.reduceNe, Int.reduceEq]
  rcases idx_cases0 (pathP p) qs with ⟨h1, h2⟩ | ⟨i, hi, h1, h2⟩
  · refine acK_of (FCall.of (lent := false) (hf h1) (.refl rfl) rfl (by simp)) ?_
    unfold NOQ
    simp -implicitDefEqProofs (maxSteps := 500000) (disch := first | decide | omega) only [↓preS, ↓reduceIte, allS, Nat.reduceBEq, Nat.reduceAdd, Nat.reduceEqDiff, reduceIte, Int.reduceToNat, Int.reduceLE, Int.reduceLT, Nat.reduceLeDiff, Nat.reduceMul, Nat.reducePow, Nat.reduceLT, Int.reduceBEq, Int.reduceBNe, Int.reduceAdd, Int.reduceSub, Int.reduceMul, Int.reduceGT, Int.reduceGE, decS, Int.reduceNe, Int.reduceEq]
    rw [h2]
    rfl
  · have hx := hq _ (List.getElem_mem hi)
    refine acK_of (FCall.of (lent := false) (hf2 i hi h1 hx.len) (.refl rfl) rfl (by simp)) ?_
    rw [h2]
    simp -implicitDefEqProofs (maxSteps := 500000) (disch := first | decide | omega) only [↓preS, ↓reduceIte, allS, Nat.reduceBEq, Nat.reduceAdd, Nat.reduceEqDiff, reduceIte, Int.reduceToNat, Int.reduceLE, Int.reduceLT, Nat.reduceLeDiff, Nat.reduceMul, Nat.reducePow, Nat.reduceLT, Int.reduceBEq, Int.reduceBNe, Int.reduceAdd, Int.reduceSub, Int.reduceMul, Int.reduceGT, Int.reduceGE, decS, Int.reduceNe, Int.reduceEq, queS, List.append_nil]
    refine acK_of (FCall.of (lent := false) (hk) (.refl rfl) rfl (by simp)) ?_
    generalize kidsL p qs = m
    simp -implicitDefEqProofs (maxSteps := 500000) (disch := first | decide | omega) only [↓preS, ↓reduceIte, allS, Nat.reduceBEq, Nat.reduceAdd, Nat.reduceEqDiff, reduceIte, Int.reduceToNat, Int.reduceLE, Int.reduceLT, Nat.reduceLeDiff, Nat.reduceMul, Nat.reducePow, Nat.reduceLT, Int.reduceBEq, Int.reduceBNe, Int.reduceAdd, Int.reduceSub, Int.reduceMul, Int.reduceGT, Int.reduceGE, decS, Int.reduceNe, Int.reduceEq]
    cases m with
    | nil => rfl
    | cons x m => simp; omega
end Go.Proofs.Ytceifhcjbmodaaa
