/- What functions of the program compute. No condition. -/
import Derived.Test.YtglimfdofgadjaaR3Code
import Derived.Test.YtglimfdofgadjaaL4
set_option linter.unusedSimpArgs false
set_option linter.unusedVariables false
namespace Go.Proofs.Ytglimfdofgadjaa
open Go Go.Ab

/-- An ask, as data. -/
structure Ask where
  prio : Int
  label : Int
  mem : Int
  cores : Int
  count : Int
  node : Int
  rack : Int
  missed : Int
  deriving DecidableEq, Inhabited
def askC (a : Ask) : List AV := [.int .i64 a.prio, .int .i64 a.label, .int .i64 a.mem, .int .i64 a.cores, .int .i64 a.count, .int .i64 a.node, .int .i64 a.rack, .int .i64 a.missed]
def ASK (a : Ask) : AV := .agg (askC a)
theorem ask_cells {a : Ask} : (ASK a).cells = askC a := rfl
theorem ask_len {a : Ask} : (askC a).length = 8 := rfl
theorem ask_one {a : Ask} : (askC a).all AV.one = true := rfl
theorem ask_ok {a : Ask} : (askC a).all AV.ok = true := rfl
theorem ask_el {a : Ask} : (ASK a).el 8 = true := rfl
theorem ask_all {a : Ask} : partOf (askC a) 0 8 true = ASK a := rfl
theorem ask_drop {a : Ask} : (askC a).drop 8 = [] := rfl
theorem ask_0 {a : Ask} : partOf (askC a) 0 1 false = .int .i64 a.prio := rfl
theorem ask_1 {a : Ask} : partOf (askC a) 1 1 false = .int .i64 a.label := rfl
theorem ask_2 {a : Ask} : partOf (askC a) 2 1 false = .int .i64 a.mem := rfl
theorem ask_3 {a : Ask} : partOf (askC a) 3 1 false = .int .i64 a.cores := rfl
theorem ask_4 {a : Ask} : partOf (askC a) 4 1 false = .int .i64 a.count := rfl
theorem ask_5 {a : Ask} : partOf (askC a) 5 1 false = .int .i64 a.node := rfl
theorem ask_6 {a : Ask} : partOf (askC a) 6 1 false = .int .i64 a.rack := rfl
theorem ask_7 {a : Ask} : partOf (askC a) 7 1 false = .int .i64 a.missed := rfl
theorem ask_g2 {a : Ask} : partOf (askC a) 2 2 true = .agg [.int .i64 a.mem, .int .i64 a.cores] := rfl
theorem ask_s0 {a : Ask} {v : Int} : (askC a).take 0 ++ .int .i64 v :: (askC a).drop 1 = askC { a with prio := v } := rfl
theorem ask_s1 {a : Ask} {v : Int} : (askC a).take 1 ++ .int .i64 v :: (askC a).drop 2 = askC { a with label := v } := rfl
theorem ask_s2 {a : Ask} {v : Int} : (askC a).take 2 ++ .int .i64 v :: (askC a).drop 3 = askC { a with mem := v } := rfl
theorem ask_s3 {a : Ask} {v : Int} : (askC a).take 3 ++ .int .i64 v :: (askC a).drop 4 = askC { a with cores := v } := rfl
theorem ask_s4 {a : Ask} {v : Int} : (askC a).take 4 ++ .int .i64 v :: (askC a).drop 5 = askC { a with count := v } := rfl
theorem ask_s5 {a : Ask} {v : Int} : (askC a).take 5 ++ .int .i64 v :: (askC a).drop 6 = askC { a with node := v } := rfl
theorem ask_s6 {a : Ask} {v : Int} : (askC a).take 6 ++ .int .i64 v :: (askC a).drop 7 = askC { a with rack := v } := rfl
theorem ask_s7 {a : Ask} {v : Int} : (askC a).take 7 ++ .int .i64 v :: (askC a).drop 8 = askC { a with missed := v } := rfl
theorem ask_nxt {P : Program} {d : Bool} {t : Nat} {l : List COper} {r : Regs} {L : St → Prop} {Lp : AV → St → Prop} {a : Ask} {H : List AO} : nxt P d t l r L Lp (ASK a) H = opsK P d l ⟨(t, ASK a) :: r, H⟩ L Lp := rfl
theorem ask_ro {a : Ask} {ρ : Nat → Option Nat} : AV.roL ρ (askC a) = askC a := rfl
theorem ask_bo {a : Ask} {ρ : Nat → Option Nat} {n : Nat} : AV.boL ρ n (askC a) = true := rfl
attribute [simp] ask_ro ask_bo
theorem ask_get {l : List Ask} {i : Nat} (h : i < l.length) : (l.map ASK).getD i .top = ASK l[i] := by simp [List.getD_eq_getElem?_getD, h]
theorem ask_upd {l : List Ask} {i : Nat} {x : Ask} : (l.map ASK).set i (elemUpd ((l.map ASK).getD i .top) 0 8 (askC x)) = (l.set i x).map ASK := by
  by_cases h : i < l.length
  · rw [ask_get h, List.map_set]; rfl
  · rw [List.set_eq_of_length_le (by simp; omega), List.set_eq_of_length_le (by omega)]
theorem ask_u0 {l : List Ask} {i : Nat} {v : Int} : (l.map ASK).set i (elemUpd ((l.map ASK).getD i .top) 0 1 [.int .i64 v]) = (l.set i { l.getD i default with prio := v }).map ASK := by
  by_cases h : i < l.length
  · rw [ask_get h, List.map_set, List.getD_eq_getElem?_getD, List.getElem?_eq_getElem h]; rfl
  · rw [List.set_eq_of_length_le (by simp; omega), List.set_eq_of_length_le (by omega)]
theorem ask_u1 {l : List Ask} {i : Nat} {v : Int} : (l.map ASK).set i (elemUpd ((l.map ASK).getD i .top) 1 1 [.int .i64 v]) = (l.set i { l.getD i default with label := v }).map ASK := by
  by_cases h : i < l.length
  · rw [ask_get h, List.map_set, List.getD_eq_getElem?_getD, List.getElem?_eq_getElem h]; rfl
  · rw [List.set_eq_of_length_le (by simp; omega), List.set_eq_of_length_le (by omega)]
theorem ask_u2 {l : List Ask} {i : Nat} {v : Int} : (l.map ASK).set i (elemUpd ((l.map ASK).getD i .top) 2 1 [.int .i64 v]) = (l.set i { l.getD i default with mem := v }).map ASK := by
  by_cases h : i < l.length
  · rw [ask_get h, List.map_set, List.getD_eq_getElem?_getD, List.getElem?_eq_getElem h]; rfl
  · rw [List.set_eq_of_length_le (by simp; omega), List.set_eq_of_length_le (by omega)]
theorem ask_u3 {l : List Ask} {i : Nat} {v : Int} : (l.map ASK).set i (elemUpd ((l.map ASK).getD i .top) 3 1 [.int .i64 v]) = (l.set i { l.getD i default with cores := v }).map ASK := by
  by_cases h : i < l.length
  · rw [ask_get h, List.map_set, List.getD_eq_getElem?_getD, List.getElem?_eq_getElem h]; rfl
  · rw [List.set_eq_of_length_le (by simp; omega), List.set_eq_of_length_le (by omega)]
theorem ask_u4 {l : List Ask} {i : Nat} {v : Int} : (l.map ASK).set i (elemUpd ((l.map ASK).getD i .top) 4 1 [.int .i64 v]) = (l.set i { l.getD i default with count := v }).map ASK := by
  by_cases h : i < l.length
  · rw [ask_get h, List.map_set, List.getD_eq_getElem?_getD, List.getElem?_eq_getElem h]; rfl
  · rw [List.set_eq_of_length_le (by simp; omega), List.set_eq_of_length_le (by omega)]
theorem ask_u5 {l : List Ask} {i : Nat} {v : Int} : (l.map ASK).set i (elemUpd ((l.map ASK).getD i .top) 5 1 [.int .i64 v]) = (l.set i { l.getD i default with node := v }).map ASK := by
  by_cases h : i < l.length
  · rw [ask_get h, List.map_set, List.getD_eq_getElem?_getD, List.getElem?_eq_getElem h]; rfl
  · rw [List.set_eq_of_length_le (by simp; omega), List.set_eq_of_length_le (by omega)]
theorem ask_u6 {l : List Ask} {i : Nat} {v : Int} : (l.map ASK).set i (elemUpd ((l.map ASK).getD i .top) 6 1 [.int .i64 v]) = (l.set i { l.getD i default with rack := v }).map ASK := by
  by_cases h : i < l.length
  · rw [ask_get h, List.map_set, List.getD_eq_getElem?_getD, List.getElem?_eq_getElem h]; rfl
  · rw [List.set_eq_of_length_le (by simp; omega), List.set_eq_of_length_le (by omega)]
theorem ask_u7 {l : List Ask} {i : Nat} {v : Int} : (l.map ASK).set i (elemUpd ((l.map ASK).getD i .top) 7 1 [.int .i64 v]) = (l.set i { l.getD i default with missed := v }).map ASK := by
  by_cases h : i < l.length
  · rw [ask_get h, List.map_set, List.getD_eq_getElem?_getD, List.getElem?_eq_getElem h]; rfl
  · rw [List.set_eq_of_length_le (by simp; omega), List.set_eq_of_length_le (by omega)]
set_option linter.defProp false in
def askS := ai @ask_cells (ai @ask_len (ai @ask_one (ai @ask_ok (ai @ask_el (ai @ask_all (ai @ask_drop (ai @ask_0 (ai @ask_1 (ai @ask_2 (ai @ask_3 (ai @ask_4 (ai @ask_5 (ai @ask_6 (ai @ask_7 (ai @ask_g2 (ai @ask_s0 (ai @ask_s1 (ai @ask_s2 (ai @ask_s3 (ai @ask_s4 (ai @ask_s5 (ai @ask_s6 (ai @ask_s7 (ai @ask_nxt (ai @ask_ro (ai @ask_bo (ai @ask_upd (ai @ask_u0 (ai @ask_u1 (ai @ask_u2 (ai @ask_u3 (ai @ask_u4 (ai @ask_u5 (ai @ask_u6 (@ask_u7)))))))))))))))))))))))))))))))))))
/-- Where the first is that p says yes to; -1: none. -/
def idxI {α : Type} (p : α → Bool) (l : List α) : Int := if l.any p then (l.findIdx p : Nat) else -1

theorem idx_at {α : Type} {p : α → Bool} {l : List α} {i : Nat} (hi : i < l.length) (hn : ∀ j, (h : j < i) → p (l[j]'(by omega)) = false) (hp : p (l[i]'hi) = true) : idxI p l = (i : Int) := by
  unfold idxI
  have : l.any p = true := List.any_eq_true.2 ⟨_, List.getElem_mem hi, hp⟩
  rw [if_pos this]
  congr 1
  exact (List.findIdx_eq hi).2 ⟨hp, fun j hj => hn j hj⟩
theorem idx_no {α : Type} {p : α → Bool} {l : List α} (hn : ∀ j, (h : j < l.length) → p l[j] = false) : idxI p l = -1 := by
  unfold idxI
  have : l.any p = false := by
    rw [List.any_eq_false]
    intro x hx
    obtain ⟨j, hj, rfl⟩ := List.getElem_of_mem hx
    rw [hn j hj]
    simp
  rw [this]
  rfl

def outP (lo hi n : Int) : Bool := decide (n < lo) || decide (n > hi)
theorem out34 (n lo hi : Int) : ACall Try.prog 34 [.int .i64 n, .ref 0 0 0, .ref 1 0 0] [.box [.int .i64 lo], .box [.int .i64 hi]] fun y G => y = .bool (outP lo hi n) ∧ G = [.box [.int .i64 lo], .box [.int .i64 hi]] := by
  refine acall_at is34 (by simp) rfl ?_
  unfold cc34 outP
  by_cases h1 : n < lo
  · simp -implicitDefEqProofs (maxSteps := 500000) (disch := first | decide | omega) only [↓preS, ↓reduceIte, allS, Nat.reduceBEq, Nat.reduceAdd, Nat.reduceEqDiff, reduceIte, Int.reduceToNat, Int.reduceLE, Int.reduceLT, Nat.reduceLeDiff, Nat.reduceMul, Nat.reducePow, Nat.reduceLT, Int.reduceBEq, Int.reduceBNe, Int.reduceAdd, Int.reduceSub, Int.reduceMul, Int.reduceGT, Int.reduceGE, decS, Int.reduceNe, Int.reduceEq]
    simp [h1]
  · by_cases h2 : n > hi
    · simp -implicitDefEqProofs (maxSteps := 500000) (disch := first | decide | omega) only [↓preS, ↓reduceIte, allS, Nat.reduceBEq, Nat.reduceAdd, Nat.reduceEqDiff, reduceIte, Int.reduceToNat, Int.reduceLE, Int.reduceLT, Nat.reduceLeDiff, Nat.reduceMul, Nat.reducePow, Nat.reduceLT, Int.reduceBEq, Int.reduceBNe, Int.reduceAdd, Int.reduceSub, Int.reduceMul, Int.reduceGT, Int.reduceGE, decS, Int.reduceNe, Int.reduceEq]
      simp [h2]
    · simp -implicitDefEqProofs (maxSteps := 500000) (disch := first | decide | omega) only [↓preS, ↓reduceIte, allS, Nat.reduceBEq, Nat.reduceAdd, Nat.reduceEqDiff, reduceIte, Int.reduceToNat, Int.reduceLE, Int.reduceLT, Nat.reduceLeDiff, Nat.reduceMul, Nat.reducePow, Nat.reduceLT, Int.reduceBEq, Int.reduceBNe, Int.reduceAdd, Int.reduceSub, Int.reduceMul, Int.reduceGT, Int.reduceGE, decS, Int.reduceNe, Int.reduceEq]
      simp [h1, h2]

def FN34 : AV := .fn (.func 34) [] [.ref 0 0 0, .ref 1 0 0]
set_option maxHeartbeats 1000000 in
theorem idx36 (t : Bool) (lo hi : Int) (l : List Int) (hl : l.length < 2 ^ 63) : ACall Try.prog 36 [.sl t 1 (l.map I64), FN34] [.box [.int .i64 lo], .box [.int .i64 hi]] fun y G => y = .int .i64 (idxI (outP lo hi) l) ∧ G = [.box [.int .i64 lo], .box [.int .i64 hi]] := by
  refine acall_at is36 (by simp) rfl ?_
  unfold cc36 FN34
  simp -implicitDefEqProofs (maxSteps := 500000) (disch := first | decide | omega) only [↓preS, ↓reduceIte, allS, Nat.reduceBEq, Nat.reduceAdd, Nat.reduceEqDiff, reduceIte, Int.reduceToNat, Int.reduceLE, Int.reduceLT, Nat.reduceLeDiff, Nat.reduceMul, Nat.reducePow, Nat.reduceLT, Int.reduceBEq, Int.reduceBNe, Int.reduceAdd, Int.reduceSub, Int.reduceMul, Int.reduceGT, Int.reduceGE, decS, Int.reduceNe, Int.reduceEq]
  unfold cc36L0
  simp -implicitDefEqProofs (maxSteps := 500000) (disch := first | decide | omega) only [↓preS, ↓reduceIte, allS, Nat.reduceBEq, Nat.reduceAdd, Nat.reduceEqDiff, reduceIte, Int.reduceToNat, Int.reduceLE, Int.reduceLT, Nat.reduceLeDiff, Nat.reduceMul, Nat.reducePow, Nat.reduceLT, Int.reduceBEq, Int.reduceBNe, Int.reduceAdd, Int.reduceSub, Int.reduceMul, Int.reduceGT, Int.reduceGE, decS, Int.reduceNe, Int.reduceEq]
  refine aw_loopS (σ := Nat) (fun i => ⟨[(0, .sl t 1 (l.map I64)), (1, .fn (.func 34) [] [.ref 0 0 0, .ref 1 0 0]), (7, .int .i64 (l.length : Int)), (8, .int .i64 (i : Int))], [.box [.int .i64 lo], .box [.int .i64 hi]]⟩)
    (fun i => i ≤ l.length ∧ ∀ j, (h : j < i) → (h2 : j < l.length) → outP lo hi l[j] = false) (fun i => l.length - i) 0 (.inl rfl) ⟨by omega, fun j h => by omega⟩ ?_
  rintro i ⟨hii, hn⟩
  unfold cc36l0
  by_cases hil : i < l.length
  · have hg : l.getD i default = l[i] := by simp [hil]
    simp -implicitDefEqProofs (maxSteps := 500000) (disch := first | decide | omega) only [↓preS, ↓reduceIte, allS, Nat.reduceBEq, Nat.reduceAdd, Nat.reduceEqDiff, reduceIte, Int.reduceToNat, Int.reduceLE, Int.reduceLT, Nat.reduceLeDiff, Nat.reduceMul, Nat.reducePow, Nat.reduceLT, Int.reduceBEq, Int.reduceBNe, Int.reduceAdd, Int.reduceSub, Int.reduceMul, Int.reduceGT, Int.reduceGE, decS, Int.reduceNe, Int.reduceEq]
    refine ⟨by omega, by omega, ?_⟩
    refine (out34 _ lo hi).to ?_
    rintro y G ⟨rfl, rfl⟩
    rw [hg]
    cases hp : outP lo hi l[i]
    · simp -implicitDefEqProofs (maxSteps := 500000) (disch := first | decide | omega) only [↓preS, ↓reduceIte, allS, Nat.reduceBEq, Nat.reduceAdd, Nat.reduceEqDiff, reduceIte, Int.reduceToNat, Int.reduceLE, Int.reduceLT, Nat.reduceLeDiff, Nat.reduceMul, Nat.reducePow, Nat.reduceLT, Int.reduceBEq, Int.reduceBNe, Int.reduceAdd, Int.reduceSub, Int.reduceMul, Int.reduceGT, Int.reduceGE, decS, Int.reduceNe, Int.reduceEq]
      refine ⟨i + 1, .inl rfl, ⟨by omega, fun j h h2 => ?_⟩, by omega⟩
      by_cases hj : j = i
      · subst hj; exact hp
      · exact hn j (by omega) h2
    · simp -implicitDefEqProofs (maxSteps := 500000) (disch := first | decide | omega) only [↓preS, ↓reduceIte, allS, Nat.reduceBEq, Nat.reduceAdd, Nat.reduceEqDiff, reduceIte, Int.reduceToNat, Int.reduceLE, Int.reduceLT, Nat.reduceLeDiff, Nat.reduceMul, Nat.reducePow, Nat.reduceLT, Int.reduceBEq, Int.reduceBNe, Int.reduceAdd, Int.reduceSub, Int.reduceMul, Int.reduceGT, Int.reduceGE, decS, Int.reduceNe, Int.reduceEq]
      rw [idx_at hil (fun j hj => hn j hj (by omega)) hp]
  · have : i = l.length := by omega
    subst this
    simp -implicitDefEqProofs (maxSteps := 500000) (disch := first | decide | omega) only [↓preS, ↓reduceIte, allS, Nat.reduceBEq, Nat.reduceAdd, Nat.reduceEqDiff, reduceIte, Int.reduceToNat, Int.reduceLE, Int.reduceLT, Nat.reduceLeDiff, Nat.reduceMul, Nat.reducePow, Nat.reduceLT, Int.reduceBEq, Int.reduceBNe, Int.reduceAdd, Int.reduceSub, Int.reduceMul, Int.reduceGT, Int.reduceGE, decS, Int.reduceNe, Int.reduceEq]
    rw [idx_no fun j hj => hn j hj hj]

theorem idx_nn {α : Type} {p : α → Bool} {l : List α} : decide (idxI p l ≥ 0) = l.any p := by
  unfold idxI
  cases h : l.any p
  · rfl
  · rw [if_pos rfl]
    simp
theorem cont33 (t : Bool) (lo hi : Int) (l : List Int) (hl : l.length < 2 ^ 63) : ACall Try.prog 33 [.sl t 1 (l.map I64), FN34] [.box [.int .i64 lo], .box [.int .i64 hi]] fun y G => y = .bool (l.any (outP lo hi)) ∧ G = [.box [.int .i64 lo], .box [.int .i64 hi]] := by
  refine acall_at is33 (by simp) rfl ?_
  unfold cc33 FN34
  simp -implicitDefEqProofs (maxSteps := 500000) (disch := first | decide | omega) only [↓preS, ↓reduceIte, allS, Nat.reduceBEq, Nat.reduceAdd, Nat.reduceEqDiff, reduceIte, Int.reduceToNat, Int.reduceLE, Int.reduceLT, Nat.reduceLeDiff, Nat.reduceMul, Nat.reducePow, Nat.reduceLT, Int.reduceBEq, Int.reduceBNe, Int.reduceAdd, Int.reduceSub, Int.reduceMul, Int.reduceGT, Int.reduceGE, Int.reduceNe, Int.reduceEq]
  refine (idx36 t lo hi l hl).to ?_
  rintro y G ⟨rfl, rfl⟩
  simp -implicitDefEqProofs (maxSteps := 500000) (disch := first | decide | omega) only [↓preS, ↓reduceIte, allS, Nat.reduceBEq, Nat.reduceAdd, Nat.reduceEqDiff, reduceIte, Int.reduceToNat, Int.reduceLE, Int.reduceLT, Nat.reduceLeDiff, Nat.reduceMul, Nat.reducePow, Nat.reduceLT, Int.reduceBEq, Int.reduceBNe, Int.reduceAdd, Int.reduceSub, Int.reduceMul, Int.reduceGT, Int.reduceGE, Int.reduceNe, Int.reduceEq]
  rw [idx_nn]
theorem all_ok (t : Bool) (lo hi : Int) (l : List Int) (hl : l.length < 2 ^ 63) : PCall Try.prog 26 [.int .i64 lo, .int .i64 hi, .sl t 1 (l.map I64)] (.bool (!l.any (outP lo hi))) := by
  refine acall_of is26 (by simp) ?_
  unfold cc26
  simp -implicitDefEqProofs (maxSteps := 500000) (disch := first | decide | omega) only [↓preS, ↓reduceIte, allS, Nat.reduceBEq, Nat.reduceAdd, Nat.reduceEqDiff, reduceIte, Int.reduceToNat, Int.reduceLE, Int.reduceLT, Nat.reduceLeDiff, Nat.reduceMul, Nat.reducePow, Nat.reduceLT, Int.reduceBEq, Int.reduceBNe, Int.reduceAdd, Int.reduceSub, Int.reduceMul, Int.reduceGT, Int.reduceGE, Int.reduceNe, Int.reduceEq]
  refine (cont33 t lo hi l hl).to ?_
  rintro y G ⟨rfl, rfl⟩
  simp -implicitDefEqProofs (maxSteps := 500000) (disch := first | decide | omega) only [↓preS, ↓reduceIte, allS, Nat.reduceBEq, Nat.reduceAdd, Nat.reduceEqDiff, reduceIte, Int.reduceToNat, Int.reduceLE, Int.reduceLT, Nat.reduceLeDiff, Nat.reduceMul, Nat.reducePow, Nat.reduceLT, Int.reduceBEq, Int.reduceBNe, Int.reduceAdd, Int.reduceSub, Int.reduceMul, Int.reduceGT, Int.reduceGE, Int.reduceNe, Int.reduceEq]

def A0 : AV := .agg [.int .i64 0, .int .i64 0, .int .i64 0, .int .i64 0, .int .i64 0, .int .i64 0, .int .i64 0, .int .i64 0]
theorem own_ok (t : Bool) (l : List Ask) (hl : l.length ≤ 2 ^ 40) : ACall Try.prog 22 [.sl t 8 (l.map ASK)] [] fun y G => y = .own 0 8 0 l.length ∧ G = [.arr 8 (l.map ASK)] := by
  refine acall_of is22 (by simp) ?_
  unfold cc22
  simp -implicitDefEqProofs (maxSteps := 500000) (disch := first | decide | omega) only [↓preS, ↓reduceIte, allS, Nat.reduceBEq, Nat.reduceAdd, Nat.reduceEqDiff, reduceIte, Int.reduceToNat, Int.reduceLE, Int.reduceLT, Nat.reduceLeDiff, Nat.reduceMul, Nat.reducePow, Nat.reduceLT, Int.reduceBEq, Int.reduceBNe, Int.reduceAdd, Int.reduceSub, Int.reduceMul, Int.reduceGT, Int.reduceGE, decS, Int.reduceNe, Int.reduceEq]
  rw [List.drop_eq_nil_of_le (by simp), List.append_nil]
  exact ⟨by omega, by omega, by omega, by omega, rfl⟩

def prioP (p : Int) (a : Ask) : Bool := a.prio == p
theorem at32 (x : Ask) (p : Int) : ACall Try.prog 32 [ASK x, .ref 0 0 0] [.box [.int .i64 p]] fun y G => y = .bool (prioP p x) ∧ G = [.box [.int .i64 p]] := by
  have key : ACall Try.prog 32 [ASK x, .ref 0 0 0] [.box [.int .i64 p]] fun y G => y = .bool (prioP p x) ∧ ∃ o, G = [.box [.int .i64 p], o] := by
    refine acall_at is32 (by simp) rfl ?_
    unfold cc32
    simp -implicitDefEqProofs (maxSteps := 500000) (disch := first | decide | omega) only [↓preS, ↓reduceIte, allS, Nat.reduceBEq, Nat.reduceAdd, Nat.reduceEqDiff, reduceIte, Int.reduceToNat, Int.reduceLE, Int.reduceLT, Nat.reduceLeDiff, Nat.reduceMul, Nat.reducePow, Nat.reduceLT, Int.reduceBEq, Int.reduceBNe, Int.reduceAdd, Int.reduceSub, Int.reduceMul, Int.reduceGT, Int.reduceGE, decS, Int.reduceNe, Int.reduceEq, askS]
    exact ⟨rfl, _, rfl⟩
  refine key.sub ?_
  rintro y G ⟨rfl, o, rfl⟩
  refine ⟨_, _, ?_, rfl, rfl⟩
  (refine Sub.ofL [some 0] rfl (by simp) (by decide) (by simp [partL, AO.ro, AV.ro, AV.roL, names, AO.empty, SB, U8, SI, I64, STR]) (by simp [AO.bo, AV.bo, AV.boL, names]) ?_ <;> (try simp only [List.map_cons, List.map_nil, regsL, AV.ro, AV.roL, AV.bo, AV.boL, names, get_here, get_there, Nat.reduceBEq, List.getD_cons_zero, List.getD_cons_succ, List.getD_nil, and_true, true_and, Nat.reduceLT, List.length_cons, List.length_nil, Nat.reduceAdd, decide_true, Option.isSome_some, Bool.true_or, Bool.and_self, Option.isSome_none, Bool.false_or, beq_self_eq_true, wk0_self, wk0_nils]) <;> (try and_intros) <;> (first | done | rfl | exact .inl rfl | exact .inr ⟨rfl, _, _, rfl⟩ | (simp; done) | (simp; omega) | (refine .inl ?_; simp; done) | (refine .inl ?_; simp; omega)))

def FN32 : AV := .fn (.func 32) [] [.ref 0 0 0]
set_option maxHeartbeats 1000000 in
theorem idx29 (t : Bool) (p : Int) (l : List Ask) (hl : l.length < 2 ^ 63) : ACall Try.prog 29 [.sl t 8 (l.map ASK), FN32] [.box [.int .i64 p]] fun y G => y = .int .i64 (idxI (prioP p) l) ∧ G = [.box [.int .i64 p]] := by
  refine acall_at is29 (by simp) rfl ?_
  unfold cc29 FN32
  simp -implicitDefEqProofs (maxSteps := 500000) (disch := first | decide | omega) only [↓preS, ↓reduceIte, allS, Nat.reduceBEq, Nat.reduceAdd, Nat.reduceEqDiff, reduceIte, Int.reduceToNat, Int.reduceLE, Int.reduceLT, Nat.reduceLeDiff, Nat.reduceMul, Nat.reducePow, Nat.reduceLT, Int.reduceBEq, Int.reduceBNe, Int.reduceAdd, Int.reduceSub, Int.reduceMul, Int.reduceGT, Int.reduceGE, decS, Int.reduceNe, Int.reduceEq]
  unfold cc29L0
  simp -implicitDefEqProofs (maxSteps := 500000) (disch := first | decide | omega) only [↓preS, ↓reduceIte, allS, Nat.reduceBEq, Nat.reduceAdd, Nat.reduceEqDiff, reduceIte, Int.reduceToNat, Int.reduceLE, Int.reduceLT, Nat.reduceLeDiff, Nat.reduceMul, Nat.reducePow, Nat.reduceLT, Int.reduceBEq, Int.reduceBNe, Int.reduceAdd, Int.reduceSub, Int.reduceMul, Int.reduceGT, Int.reduceGE, decS, Int.reduceNe, Int.reduceEq]
  refine aw_loopS (σ := Nat) (fun i => ⟨[(0, .sl t 8 (l.map ASK)), (1, .fn (.func 32) [] [.ref 0 0 0]), (7, .int .i64 (l.length : Int)), (8, .int .i64 (i : Int))], [.box [.int .i64 p]]⟩)
    (fun i => i ≤ l.length ∧ ∀ j, (h : j < i) → (h2 : j < l.length) → prioP p l[j] = false) (fun i => l.length - i) 0 (.inl rfl) ⟨by omega, fun j h => by omega⟩ ?_
  rintro i ⟨hii, hn⟩
  unfold cc29l0
  by_cases hil : i < l.length
  · have hg : l.getD i default = l[i] := by simp [hil]
    simp -implicitDefEqProofs (maxSteps := 500000) (disch := first | decide | omega) only [↓preS, ↓reduceIte, allS, Nat.reduceBEq, Nat.reduceAdd, Nat.reduceEqDiff, reduceIte, Int.reduceToNat, Int.reduceLE, Int.reduceLT, Nat.reduceLeDiff, Nat.reduceMul, Nat.reducePow, Nat.reduceLT, Int.reduceBEq, Int.reduceBNe, Int.reduceAdd, Int.reduceSub, Int.reduceMul, Int.reduceGT, Int.reduceGE, decS, Int.reduceNe, Int.reduceEq, askS]
    refine ⟨by omega, by omega, ?_⟩
    refine (at32 _ p).to ?_
    rintro y G ⟨rfl, rfl⟩
    rw [hg]
    cases hp : prioP p l[i]
    · simp -implicitDefEqProofs (maxSteps := 500000) (disch := first | decide | omega) only [↓preS, ↓reduceIte, allS, Nat.reduceBEq, Nat.reduceAdd, Nat.reduceEqDiff, reduceIte, Int.reduceToNat, Int.reduceLE, Int.reduceLT, Nat.reduceLeDiff, Nat.reduceMul, Nat.reducePow, Nat.reduceLT, Int.reduceBEq, Int.reduceBNe, Int.reduceAdd, Int.reduceSub, Int.reduceMul, Int.reduceGT, Int.reduceGE, decS, Int.reduceNe, Int.reduceEq]
      refine ⟨i + 1, .inl rfl, ⟨by omega, fun j h h2 => ?_⟩, by omega⟩
      by_cases hj : j = i
      · subst hj; exact hp
      · exact hn j (by omega) h2
    · simp -implicitDefEqProofs (maxSteps := 500000) (disch := first | decide | omega) only [↓preS, ↓reduceIte, allS, Nat.reduceBEq, Nat.reduceAdd, Nat.reduceEqDiff, reduceIte, Int.reduceToNat, Int.reduceLE, Int.reduceLT, Nat.reduceLeDiff, Nat.reduceMul, Nat.reducePow, Nat.reduceLT, Int.reduceBEq, Int.reduceBNe, Int.reduceAdd, Int.reduceSub, Int.reduceMul, Int.reduceGT, Int.reduceGE, decS, Int.reduceNe, Int.reduceEq]
      rw [idx_at hil (fun j hj => hn j hj (by omega)) hp]
  · have : i = l.length := by omega
    subst this
    simp -implicitDefEqProofs (maxSteps := 500000) (disch := first | decide | omega) only [↓preS, ↓reduceIte, allS, Nat.reduceBEq, Nat.reduceAdd, Nat.reduceEqDiff, reduceIte, Int.reduceToNat, Int.reduceLE, Int.reduceLT, Nat.reduceLeDiff, Nat.reduceMul, Nat.reducePow, Nat.reduceLT, Int.reduceBEq, Int.reduceBNe, Int.reduceAdd, Int.reduceSub, Int.reduceMul, Int.reduceGT, Int.reduceGE, decS, Int.reduceNe, Int.reduceEq]
    rw [idx_no fun j hj => hn j hj hj]
end Go.Proofs.Ytglimfdofgadjaa
