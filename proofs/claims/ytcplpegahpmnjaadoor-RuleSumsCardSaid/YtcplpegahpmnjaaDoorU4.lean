/- What functions of the program compute. No condition. -/
import Derived.Test.YtcplpegahpmnjaaDoorU3
import Derived.Lib.Bytealg
set_option linter.unusedSimpArgs false
set_option linter.unusedVariables false
namespace Go.Proofs.YtcplpegahpmnjaaDoor
open Go Go.Ab
theorem ib_cases (c : UInt8) : ∀ s : List UInt8, (s.count c = 0 ∧ Lib.indexByte s c = -1) ∨ ∃ i : Nat, i < s.length ∧ Lib.indexByte s c = (i : Int) ∧ s.count c = (s.drop (i + 1)).count c + 1
  | [] => .inl ⟨rfl, rfl⟩
  | b :: l => by
    unfold Lib.indexByte
    by_cases hb : (b == c) = true
    · rw [if_pos hb]
      refine .inr ⟨0, by simp, rfl, ?_⟩
      rw [List.count_cons, if_pos hb]
      rfl
    · rw [if_neg hb]
      rcases ib_cases c l with ⟨h1, h2⟩ | ⟨i, h1, h2, h3⟩
      · refine .inl ⟨?_, ?_⟩
        · rw [List.count_cons, if_neg hb, h1]
        · rw [h2]; rfl
      · refine .inr ⟨i + 1, by simp; omega, ?_, ?_⟩
        · rw [h2]
          have : ((i : Int) == -1) = false := by rw [beq_eq_false_iff_ne]; omega
          rw [this]
          simp
        · rw [List.count_cons, if_neg hb, h3]
          rfl
theorem xc_ibs {s : List UInt8} {c : UInt8} {H : List AO} {K : AV → List AO → Prop} (hk : K (.int .i64 (Lib.indexByte s c)) H) : XCall Tryd.prog 59 [.str s, .int .u8 c.toNat] H K := by
  intro E vs hm hl hv
  match vs, hl with
  | [v1, v2], _ =>
    have h1 : E.VR H.length v1 (.str s) := hv 0 _ rfl
    have h2 : E.VR H.length v2 (.int .u8 c.toNat) := hv 1 _ rfl
    obtain ⟨b, rfl, hs⟩ : ∃ b, v1 = .string b ∧ b.data.toList = s := by cases h1 with | str hs => exact ⟨_, rfl, hs⟩
    obtain rfl : v2 = .int .u8 c.toNat := by cases h2; rfl
    refine ⟨.int .i64 (Lib.indexByte s c), _, E, H, ?_, .int, hm, Trans.refl _ _, hk⟩
    rw [run_callFunc_extern (fn := Tryd.f59) (e := Extern.BytealgIndexByte.indexByte) Tryd.func59 (by kernel_rfl) (by kernel_rfl) (by kernel_rfl) (by kernel_rfl)]
    have key := Lib.run_indexByteString (P := Tryd.prog) b (c.toNat : Int) E.w
    rw [hs] at key
    have e : (c.toNat : Int).toNat.toUInt8 = c := by simp
    rw [e] at key
    have hk : (Extern.BytealgIndexByte.indexByte [Value.string b, Value.int .u8 (c.toNat : Int)].toArray).run Tryd.prog E.w = .ok (.int .i64 (Lib.indexByte s c)) E.w := key
    rw [hk]
    rfl
theorem xc_cs {s : List UInt8} {c : UInt8} {H : List AO} {K : AV → List AO → Prop} (hk : K (.int .i64 (s.count c : Nat)) H) : XCall Tryd.prog 52 [.str s, .int .u8 c.toNat] H K := by
  intro E vs hm hl hv
  match vs, hl with
  | [v1, v2], _ =>
    have h1 : E.VR H.length v1 (.str s) := hv 0 _ rfl
    have h2 : E.VR H.length v2 (.int .u8 c.toNat) := hv 1 _ rfl
    obtain ⟨b, rfl, hs⟩ : ∃ b, v1 = .string b ∧ b.data.toList = s := by cases h1 with | str hs => exact ⟨_, rfl, hs⟩
    obtain rfl : v2 = .int .u8 c.toNat := by cases h2; rfl
    refine ⟨.int .i64 (s.count c : Nat), _, E, H, ?_, .int, hm, Trans.refl _ _, hk⟩
    rw [run_callFunc_extern (fn := Tryd.f52) (e := Extern.BytealgCount.count) Tryd.func52 (by kernel_rfl) (by kernel_rfl) (by kernel_rfl) (by kernel_rfl)]
    have key := Lib.run_countString (P := Tryd.prog) b (c.toNat : Int) E.w
    rw [hs] at key
    have e : (c.toNat : Int).toNat.toUInt8 = c := by simp
    rw [e] at key
    have hk : (Extern.BytealgCount.count [Value.string b, Value.int .u8 (c.toNat : Int)].toArray).run Tryd.prog E.w = .ok (.int .i64 (s.count c : Nat)) E.w := key
    rw [hk]
    rfl
theorem idx55 (s : List UInt8) : PCall Tryd.prog 55 [.str s, .int .u8 46] (.int .i64 (Lib.indexByte s 46)) := by
  unfold PCall
  refine acall_of is55 (by simp) ?_
  unfold cc55
  simp -implicitDefEqProofs (maxSteps := 500000) (disch := first | decide | omega) only [↓preS, allS, decS, simprocAttr]
  refine xc_ibs (c := 46) ?_
  simp -implicitDefEqProofs (maxSteps := 500000) (disch := first | decide | omega) only [↓preS, allS, decS, simprocAttr]
theorem idx53 (s : List UInt8) : PCall Tryd.prog 53 [.str s, .str [46]] (.int .i64 (Lib.indexByte s 46)) := by
  unfold PCall
  refine acall_of is53 (by simp) ?_
  unfold cc53
  simp -implicitDefEqProofs (maxSteps := 500000) (disch := first | decide | omega) only [↓preS, allS, decS, simprocAttr]
  refine cK_split (fun hb => ?_) (fun hb => ?_)
  · obtain rfl : s = [46] := (beq_iff_eq.1 hb).symm
    simp -implicitDefEqProofs (maxSteps := 500000) (disch := first | decide | omega) only [↓preS, allS, decS, simprocAttr]
    rfl
  · simp -implicitDefEqProofs (maxSteps := 500000) (disch := first | decide | omega) only [↓preS, allS, decS, simprocAttr]
    refine acK_of (FCall.of (lent := false) (idx55 s) (.refl rfl) rfl (by simp)) ?_
    simp -implicitDefEqProofs (maxSteps := 500000) (disch := first | decide | omega) only [↓preS, allS, decS, simprocAttr]
theorem idx49 (s : List UInt8) : PCall Tryd.prog 49 [.str s, .str [46]] (.int .i64 (Lib.indexByte s 46)) := by
  unfold PCall
  refine acall_of is49 (by simp) ?_
  unfold cc49
  simp -implicitDefEqProofs (maxSteps := 500000) (disch := first | decide | omega) only [↓preS, allS, decS, simprocAttr]
  refine acK_of (FCall.of (lent := false) (idx53 s) (.refl rfl) rfl (by simp)) ?_
  simp -implicitDefEqProofs (maxSteps := 500000) (disch := first | decide | omega) only [↓preS, allS, decS, simprocAttr]
theorem cnt48 (s : List UInt8) : PCall Tryd.prog 48 [.str s, .str [46]] (.int .i64 (s.count 46 : Nat)) := by
  unfold PCall
  refine acall_of is48 (by simp) ?_
  unfold cc48
  simp -implicitDefEqProofs (maxSteps := 500000) (disch := first | decide | omega) only [↓preS, allS, decS, simprocAttr]
  refine xc_cs (c := 46) ?_
  simp -implicitDefEqProofs (maxSteps := 500000) (disch := first | decide | omega) only [↓preS, allS, decS, simprocAttr]
def splitL (s : List UInt8) : List (List UInt8) := if h : Lib.indexByte s 46 < 0 then [s] else s.take (Lib.indexByte s 46).toNat :: splitL (s.drop ((Lib.indexByte s 46).toNat + 1))
termination_by s.length
decreasing_by
  rcases ib_cases 46 s with ⟨h1, h2⟩ | ⟨i, h1, h2, h3⟩
  · rw [h2] at h; simp at h
  · simp; omega
theorem splitL_end {s : List UInt8} (h : s.count 46 = 0) : splitL s = [s] := by
  unfold splitL
  rcases ib_cases 46 s with ⟨h1, h2⟩ | ⟨i, h1, h2, h3⟩
  · rw [h2, dif_pos (by decide)]
  · omega
theorem splitL_go {s : List UInt8} {i : Nat} (h : Lib.indexByte s 46 = (i : Int)) : splitL s = s.take i :: splitL (s.drop (i + 1)) := by
  rw [splitL, h, dif_neg (by omega)]
  rfl
theorem splitL_len : ∀ (n : Nat) (s : List UInt8), s.length ≤ n → (splitL s).length = s.count 46 + 1
  | 0, s, h => by
    have : s = [] := List.length_eq_zero_iff.1 (by omega)
    subst this
    rw [splitL_end rfl]
    rfl
  | n + 1, s, h => by
    rcases ib_cases 46 s with ⟨h1, h2⟩ | ⟨i, h1, h2, h3⟩
    · rw [splitL_end h1, h1]
      rfl
    · rw [splitL_go h2, List.length_cons, splitL_len n _ (by simp; omega), h3]
theorem e46 : (([46] : List UInt8) == []) = false := rfl
theorem set_str (a r : List (List UInt8)) (u : List UInt8) : (List.map AV.str (a ++ [] :: r)).set a.length (elemUpd ((List.map AV.str (a ++ [] :: r)).getD a.length .top) 0 1 [.str u]) = List.map AV.str (a ++ u :: r) := by
  have h : (List.map AV.str (a ++ [] :: r)).getD a.length .top = .str [] := by simp [List.getD_eq_getElem?_getD]
  rw [h]
  show (List.map AV.str (a ++ [] :: r)).set a.length (.str u) = _
  simp
set_option maxHeartbeats 2000000 in
theorem split43 (s : List UInt8) (hs : s.length ≤ 2 ^ 40) : PCall Tryd.prog 43 [.str s, .str [46], .int .i64 0, .int .i64 (-1)] (.sl false 1 ((splitL s).map AV.str)) := by
  have hcnt : s.count 46 ≤ s.length := List.count_le_length
  refine PCall.wk3 (acall_of is43 (by simp) ?_)
  unfold cc43
  simp -implicitDefEqProofs (maxSteps := 500000) (disch := first | decide | omega) only [↓preS, allS, decS, simprocAttr, e46]
  refine acK_of (FCall.of (lent := false) (cnt48 s) (.refl rfl) rfl (by simp)) ?_
  have hmin : min ((s.count 46 : Int) + 1) ((s.length : Int) + 1) = (s.count 46 : Int) + 1 := by omega
  simp -implicitDefEqProofs (maxSteps := 500000) (disch := first | decide | omega) only [↓preS, allS, decS, simprocAttr, mm2, hmin]
  refine ⟨by omega, by omega, by omega, by omega, ?_⟩
  generalize hN : s.count 46 = N at *
  unfold cc43L0
  have e1 : ((N : Int) + 1).toNat = N + 1 := by omega
  have e2 : (N : Int) + 1 - 1 = N := by omega
  rw [e1]
  refine aw_loopS (σ := List (List UInt8) × List UInt8) (fun q => ⟨[(0, .str q.2), (1, .str [46]), (2, .int .i64 0), (3, .int .i64 (N : Int)), (9, .own 0 1 0 (N + 1)), (10, .int .i64 (q.1.length : Int))], [.arr 1 ((q.1 ++ List.replicate (q.2.count 46 + 1) []).map AV.str)]⟩)
    (fun q => splitL s = q.1 ++ splitL q.2 ∧ q.1.length + q.2.count 46 = N ∧ q.2.length ≤ s.length) (fun q => q.2.length) ([], s) ?_ ⟨rfl, by simp [hN], Nat.le_refl _⟩ ?_
  · simp only [List.length_nil, List.nil_append, hN, List.map_replicate, e2]
    (refine Sub.ofL [some 0] rfl (by simp) (by decide) (by simp [partL, AO.ro, AV.ro, AV.roL, names, AO.empty, SB, U8, SI, I64, STR] <;> (try and_intros) <;> rfl) (by simp [AO.bo, AV.bo, AV.boL, names] <;> (try and_intros) <;> rfl) ?_ <;> (try simp only [List.map_cons, List.map_nil, regsL, AV.ro, AV.roL, AV.bo, AV.boL, names, get_here, get_there, Nat.reduceBEq, List.getD_cons_zero, List.getD_cons_succ, List.getD_nil, and_true, true_and, Nat.reduceLT, List.length_cons, List.length_nil, Nat.reduceAdd, decide_true, Option.isSome_some, Bool.true_or, Bool.and_self, Option.isSome_none, Bool.false_or, beq_self_eq_true, wk0_self, wk0_nils]) <;> (try and_intros) <;> (first | done | rfl | exact .inl rfl | exact .inr ⟨rfl, _, _, rfl⟩ | (simp; done) | (simp; omega) | (refine .inl ?_; simp; done) | (refine .inl ?_; simp; omega)))
  rintro ⟨a, u⟩ ⟨h1, h2, h3⟩
  simp only at h1 h2 h3
  unfold cc43l0
  rcases ib_cases 46 u with ⟨g1, g2⟩ | ⟨i, g1, g2, g3⟩
  · rw [splitL_end g1] at h1
    rw [g1]
    have e3 : a ++ List.replicate (0 + 1) [] = a ++ [] :: ([] : List (List UInt8)) := rfl
    rw [e3]
    simp -implicitDefEqProofs (maxSteps := 500000) (disch := first | decide | omega) only [↓preS, allS, decS, simprocAttr, set_str]
    have e4 : ((a.length : Int) + 1).toNat - 0 = a.length + 1 := by omega
    rw [e4, if_pos (by simp), List.take_of_length_le (by simp), h1]
    exact ⟨by omega, by omega, by omega, by omega, by omega, by omega, .inl (.inl (.inl rfl))⟩
  · have hi := idx49 u
    rw [g2] at hi
    rw [splitL_go g2] at h1
    have e3 : a ++ List.replicate (u.count 46 + 1) [] = a ++ [] :: List.replicate (u.count 46) [] := by rw [List.replicate_succ]
    rw [e3]
    simp -implicitDefEqProofs (maxSteps := 500000) (disch := first | decide | omega) only [↓preS, allS, decS, simprocAttr]
    refine acK_of (FCall.of (lent := false) (hi) (.refl rfl) rfl (by simp)) ?_
    simp -implicitDefEqProofs (maxSteps := 500000) (disch := first | decide | omega) only [↓preS, allS, decS, simprocAttr, set_str]
    have e4 : ((i : Int) + 0).toNat = i := by omega
    have e5 : ((i : Int) + 1).toNat = i + 1 := by omega
    rw [e4, e5]
    refine ⟨by omega, by omega, by omega, by omega, by omega, by omega, by omega, by omega, (a ++ [u.take i], u.drop (i + 1)), ?_, ⟨by simp [h1], by simp; omega, by simp; omega⟩, by simp; omega⟩
    have e6 : a ++ u.take i :: List.replicate (u.count 46) [] = (a ++ [u.take i]) ++ List.replicate ((u.drop (i + 1)).count 46 + 1) [] := by rw [← g3]; simp
    simp only [e6, List.length_append, List.length_cons, List.length_nil]
    (refine Sub.ofL [some 0] rfl (by simp) (by decide) (by simp [partL, AO.ro, AV.ro, AV.roL, names, AO.empty, SB, U8, SI, I64, STR] <;> (try and_intros) <;> rfl) (by simp [AO.bo, AV.bo, AV.boL, names] <;> (try and_intros) <;> rfl) ?_ <;> (try simp only [List.map_cons, List.map_nil, regsL, AV.ro, AV.roL, AV.bo, AV.boL, names, get_here, get_there, Nat.reduceBEq, List.getD_cons_zero, List.getD_cons_succ, List.getD_nil, and_true, true_and, Nat.reduceLT, List.length_cons, List.length_nil, Nat.reduceAdd, decide_true, Option.isSome_some, Bool.true_or, Bool.and_self, Option.isSome_none, Bool.false_or, beq_self_eq_true, wk0_self, wk0_nils]) <;> (try and_intros) <;> (first | done | rfl | exact .inl rfl | exact .inr ⟨rfl, _, _, rfl⟩ | (simp; done) | (simp; omega) | (refine .inl ?_; simp; done) | (refine .inl ?_; simp; omega)))
theorem split36 (s : List UInt8) (hs : s.length ≤ 2 ^ 40) : PCall Tryd.prog 36 [.str s, .str [46]] (.sl false 1 ((splitL s).map AV.str)) := by
  unfold PCall
  refine acall_of is36 (by simp) ?_
  unfold cc36
  simp -implicitDefEqProofs (maxSteps := 500000) (disch := first | decide | omega) only [↓preS, allS, decS, simprocAttr]
  refine acK_of (FCall.of (lent := false) (split43 s hs) (.refl rfl) rfl (by simp)) ?_
  simp -implicitDefEqProofs (maxSteps := 500000) (disch := first | decide | omega) only [↓preS, allS, decS, simprocAttr]
end Go.Proofs.YtcplpegahpmnjaaDoor
