/- What functions of the program compute. No condition. -/
import Derived.Test.YtceifhcjbmodaaaP6
import Derived.Test.YtceifhcjbmodaaaL3
set_option linter.unusedSimpArgs false
set_option linter.unusedVariables false
namespace Go.Proofs.Ytceifhcjbmodaaa
open Go Go.Ab

def insL (k : Nat) (x : App) (l : List App) : List App := l.take k ++ x :: l.drop k
set_option maxHeartbeats 4000000 in
/-- slices.Insert, of one. -/
theorem ins_ok (l : List App) (Z : List AV) (x : App) (k : Nat) (hk : k ≤ l.length) (hl : l.length + Z.length ≤ 2 ^ 36) : ACall Try.prog 37 [.own 0 14 0 l.length, .int .i64 k, .own 1 14 0 1] [.arr 14 (l.map APP ++ Z), .arr 14 [APP x]] fun y G => y = .sl false 14 ((insL k x l).map APP) := by
  refine acall_at is37 (by simp) rfl ?_
  unfold cc37
  have hle : l.length ≤ l.length + Z.length := by omega
  have htk : (l.map APP ++ Z).take l.length = l.map APP := by rw [List.take_left']; simp
  by_cases hkl : k = l.length
  · subst hkl
    have e : insL l.length x l = l ++ [x] := by simp [insL]
    simp -implicitDefEqProofs (maxSteps := 500000) (disch := first | decide | omega) only [↓preS, ↓reduceIte, allS, Nat.reduceBEq, Nat.reduceAdd, Nat.reduceEqDiff, reduceIte, Int.reduceToNat, Int.reduceLE, Int.reduceLT, Nat.reduceLeDiff, Nat.reduceMul, Nat.reducePow, Nat.reduceLT, Int.reduceBEq, Int.reduceBNe, Int.reduceAdd, Int.reduceSub, Int.reduceMul, Int.reduceGT, Int.reduceGE, decS, Int.reduceNe, Int.reduceEq, bndK_int, hle, htk]
    refine ⟨by omega, ⟨by omega, by omega⟩, ?_⟩
    rw [e, List.take_of_length_le (by simp), List.map_append]
    rfl
  · have hne : ¬ ((k : Int) = (l.length : Int)) := by omega
    have ht1 : ((l.length : Int) + 1).toNat = l.length + 1 := by omega
    have ht2 : ((k : Int) + 1).toNat = k + 1 := by omega
    have ht3 : ((l.length : Int) + 1 - (k : Int)).toNat = l.length + 1 - k := by omega
    simp -implicitDefEqProofs (maxSteps := 500000) (disch := first | decide | omega) only [↓preS, ↓reduceIte, allS, Nat.reduceBEq, Nat.reduceAdd, Nat.reduceEqDiff, reduceIte, Int.reduceToNat, Int.reduceLE, Int.reduceLT, Nat.reduceLeDiff, Nat.reduceMul, Nat.reducePow, Nat.reduceLT, Int.reduceBEq, Int.reduceBNe, Int.reduceAdd, Int.reduceSub, Int.reduceMul, Int.reduceGT, Int.reduceGE, decS, Int.reduceNe, Int.reduceEq, bndK_int, hle, htk]
    refine ⟨by omega, by omega, fun c hc hcz => ?_⟩
    have hwl : (Z ++ List.replicate (c - (l.length + Z.length)) (anyEl 14)).length = Z.length + (c - (l.length + Z.length)) := by simp
    rw [List.append_assoc]
    generalize Z ++ List.replicate (c - (l.length + Z.length)) (anyEl 14) = W at hwl ⊢
    have hkw : k ≤ l.length + W.length := by omega
    have htk2 : (l.map APP ++ W).take k = (l.take k).map APP := by rw [List.take_append_of_le_length (by simp; omega), List.map_take]
    have h1 : k + (l.length + 1 - k) = l.length + 1 := by omega
    have h2 : k + (l.length - k) = l.length := by omega
    have h5 : l.length + 1 - (k + 1) = l.length - k := by omega
    have h6 : l.length ≤ l.length + W.length := by omega
    have m1 : min k l.length = k := by omega
    have m2 : min 1 (l.length + 1 - k) = 1 := by omega
    have m3 : min k (l.length + W.length) = k := by omega
    have h3 : ((l.map APP ++ W).drop k).take (l.length - k) = (l.drop k).map APP := by rw [List.drop_append_of_le_length (by simp; omega), List.take_append_of_le_length (by simp), List.take_of_length_le (by simp), List.map_drop]
    have lk : ((l.take k).map APP).length = k := by simp; omega
    have r1 : ∀ z : AV, ((l.take k).map APP ++ List.replicate (l.length + 1 - k) z).take k = (l.take k).map APP := fun z => List.take_left' lk
    have r2 : [APP x].take (l.length + 1 - k) = [APP x] := List.take_of_length_le (by simp; omega)
    have r4 : ∀ z : AV, ((l.take k).map APP ++ List.replicate (l.length + 1 - k) z).drop (k + 1) = List.replicate (l.length - k) z := fun z => by
      rw [List.drop_append, lk, List.drop_eq_nil_of_le (by omega), List.nil_append, List.drop_replicate]
      congr 1
      omega
    have r6 : ∀ z : List AV, ((l.take k).map APP ++ [APP x] ++ z).take (k + 1) = (l.take k).map APP ++ [APP x] := fun z => List.take_left' (by rw [List.length_append, lk]; rfl)
    have r7 : (l.drop k).take (l.length - k) = l.drop k := List.take_of_length_le (by simp)
    have r8 : ∀ z : AV, ((l.take k).map APP ++ [APP x] ++ List.replicate (l.length - k) z).drop (k + 1 + (l.length - k)) = [] := fun z => List.drop_eq_nil_of_le (by rw [List.length_append, List.length_append, lk, List.length_replicate]; simp)
    have e9 : (l.take k).map APP ++ [APP x] ++ (l.drop k).map APP = (insL k x l).map APP := by simp [insL]
    by_cases hroom : l.length + 1 > c
    · have hroom2 : (l.length : Int) + 1 > (c : Int) := by omega
      simp -implicitDefEqProofs (maxSteps := 500000) (disch := first | decide | omega) only [↓preS, ↓reduceIte, allS, Nat.reduceBEq, Nat.reduceAdd, Nat.reduceEqDiff, reduceIte, Int.reduceToNat, Int.reduceLE, Int.reduceLT, Nat.reduceLeDiff, Nat.reduceMul, Nat.reducePow, Nat.reduceLT, Int.reduceBEq, Int.reduceBNe, Int.reduceAdd, Int.reduceSub, Int.reduceMul, Int.reduceGT, Int.reduceGE, decS, Int.reduceNe, Int.reduceEq, bndK_int, Nat.sub_zero, hkw, htk2, ht1, ht2, ht3, h1, h2, h3, h5, h6, m1, m2, m3, r1, r2, r4, r6, r7, r8, Nat.min_self]
      rw [if_pos (by omega), List.append_nil, e9, List.take_of_length_le (by simp [insL]; omega)]
      repeat' first | rfl | omega | apply And.intro
    · have hroom2 : ¬ ((l.length : Int) + 1 > (c : Int)) := by omega
      simp -implicitDefEqProofs (maxSteps := 500000) (disch := first | decide | omega) only [↓preS, ↓reduceIte, allS, Nat.reduceBEq, Nat.reduceAdd, Nat.reduceEqDiff, reduceIte, Int.reduceToNat, Int.reduceLE, Int.reduceLT, Nat.reduceLeDiff, Nat.reduceMul, Nat.reducePow, Nat.reduceLT, Int.reduceBEq, Int.reduceBNe, Int.reduceAdd, Int.reduceSub, Int.reduceMul, Int.reduceGT, Int.reduceGE, decS, Int.reduceNe, Int.reduceEq, bndK_int, Nat.sub_zero, hkw, htk2, ht1, ht2, ht3]
      refine ⟨by omega, by omega, by omega, by omega, ?_⟩
      show XCall _ _ _ _ _
      refine xcall_overlaps (H := [.arr 14 (l.map APP ++ W), .arr 14 [APP x]]) (z := 14) (i := 1) (j := 0) (f := 51) (fn := Try.f51) (tS := 29) (tR := 4) (el := 43) (l := [APP x]) (m := l.map APP ++ W) Try.func51 (by kernel_rfl) (by kernel_rfl) (by kernel_rfl) (by kernel_rfl) Try.underlying29 (by kernel_rfl) (by omega) (by omega) (by omega) rfl rfl ?_
      simp -implicitDefEqProofs (maxSteps := 500000) (disch := first | decide | omega) only [↓preS, ↓reduceIte, allS, Nat.reduceBEq, Nat.reduceAdd, Nat.reduceEqDiff, reduceIte, Int.reduceToNat, Int.reduceLE, Int.reduceLT, Nat.reduceLeDiff, Nat.reduceMul, Nat.reducePow, Nat.reduceLT, Int.reduceBEq, Int.reduceBNe, Int.reduceAdd, Int.reduceSub, Int.reduceMul, Int.reduceGT, Int.reduceGE, decS, Int.reduceNe, Int.reduceEq, bndK_int, Nat.sub_zero, hkw, htk2, ht1, ht2, ht3, h1, h2, h3, h5, h6, m1, m2, m3, r1, r2, r4, r6, r7, r8, Nat.min_self]
      have h7 : l.length + 1 ≤ l.length + W.length := by omega
      have m4 : min (l.length - k) (l.length + 1 - k) = l.length - k := by omega
      have g1 : ((l.map APP ++ W).drop k).take (l.length + 1 - k) = (l.drop k).map APP ++ W.take 1 := by
        rw [List.drop_append_of_le_length (by simp; omega), List.take_append, List.take_of_length_le (by simp; omega), List.map_drop, List.length_drop, List.length_map]
        congr 2
        omega
      have g2 : ((l.drop k).map APP ++ W.take 1).take (l.length - k) = (l.drop k).map APP := List.take_left' (by simp)
      simp -implicitDefEqProofs (maxSteps := 500000) (disch := first | decide | omega) only [↓preS, ↓reduceIte, allS, Nat.reduceBEq, Nat.reduceAdd, Nat.reduceEqDiff, reduceIte, Int.reduceToNat, Int.reduceLE, Int.reduceLT, Nat.reduceLeDiff, Nat.reduceMul, Nat.reducePow, Nat.reduceLT, Int.reduceBEq, Int.reduceBNe, Int.reduceAdd, Int.reduceSub, Int.reduceMul, Int.reduceGT, Int.reduceGE, decS, Int.reduceNe, Int.reduceEq, bndK_int, Nat.sub_zero, hkw, htk2, ht1, ht2, ht3, h1, h2, h3, h5, h6, h7, m1, m2, m3, m4, g1, g2, r1, r2, r4, r6, r7, r8, Nat.min_self]
      refine ⟨by omega, by omega, by omega, by omega, by omega, by omega, by omega, by omega, ?_⟩
      rw [if_pos (by omega)]
      have lt : (List.take (k + 1) (l.map APP ++ W)).length = k + 1 := by rw [List.length_take, List.length_append, List.length_map]; omega
      have q1 : ∀ R : List AV, List.take k (List.take (k + 1) (l.map APP ++ W) ++ (l.drop k).map APP ++ R) = (l.take k).map APP := fun R => by
        rw [List.append_assoc, List.take_append_of_le_length (by omega), List.take_take, Nat.min_eq_left (by omega)]
        exact htk2
      have q2 : ∀ R : List AV, List.drop (k + 1) (List.take (k + 1) (l.map APP ++ W) ++ (l.drop k).map APP ++ R) = (l.drop k).map APP ++ R := fun R => by
        rw [List.append_assoc, List.drop_left' lt]
      rw [q1, q2, ← List.append_assoc, e9, List.take_left' (by simp [insL]; omega)]

end Go.Proofs.Ytceifhcjbmodaaa
