/- What functions of the program compute. No condition. -/
import Derived.Test.YtcplpegahpmnjaaDoorU5
import Derived.Test.YtcplpegahpmnjaaDoorR5bCode
import Derived.Test.YtcplpegahpmnjaaDoorL4
set_option linter.unusedSimpArgs false
set_option linter.unusedVariables false
namespace Go.Proofs.YtcplpegahpmnjaaDoor
open Go Go.Ab
def pk (ns : List Int) (i : Nat) : Int := if ns.length = 0 then (i : Int) else ns.getD (i % ns.length) 0
theorem pick_ok (ns : List Int) (i : Nat) (hl : ns.length < 2 ^ 62) : PCall Tryd.prog 24 [.sl false 1 (ns.map I64), .int .i64 i] (.int .i64 (pk ns i)) := by
  unfold PCall pk
  refine acall_of is24 (by simp) ?_
  unfold cc24
  by_cases h0 : ns.length = 0
  · rw [if_pos h0]
    simp -implicitDefEqProofs (maxSteps := 500000) (disch := first | decide | omega) only [↓preS, allS, decS, simprocAttr, h0]
  · rw [if_neg h0]
    simp -implicitDefEqProofs (maxSteps := 500000) (disch := first | decide | omega) only [↓preS, allS, decS, simprocAttr]
    have e : (i : Int).tmod (ns.length : Int) = ((i % ns.length : Nat) : Int) := by
      rw [Int.tmod_eq_emod_of_nonneg (by omega)]
      rfl
    have hlt := Nat.mod_lt i (show 0 < ns.length by omega)
    rw [e, Int.toNat_natCast]
    exact ⟨by omega, by omega, by omega, rfl⟩
theorem xabove_ok (s : List UInt8) (hs : s.length < 2 ^ 62) : PCall Tryd.prog 32 [.str s] (.str (aboveP s).1) := by
  unfold PCall
  refine acall_of is32 (by simp) ?_
  unfold cc32
  simp -implicitDefEqProofs (maxSteps := 500000) (disch := first | decide | omega) only [↓preS, allS, decS, simprocAttr]
  unfold cc32L0
  simp -implicitDefEqProofs (maxSteps := 500000) (disch := first | decide | omega) only [↓preS, allS, decS, simprocAttr]
  refine aw_loopS (σ := Nat) (fun n => ⟨[(0, .str s), (3, .int .i64 ((n : Int) - 1))], []⟩) (fun n => n ≤ s.length ∧ dotL s = lastN dot s n) (fun n => n) s.length (.inl rfl) ⟨by omega, rfl⟩ ?_
  rintro n ⟨hn, hl⟩
  unfold cc32l0
  cases n with
  | zero =>
    have hl : dotL s = -1 := hl
    simp -implicitDefEqProofs (maxSteps := 500000) (disch := first | decide | omega) only [↓preS, allS, decS, simprocAttr]
    unfold aboveP
    rw [if_pos (by omega)]
  | succ n =>
    have e : ((n + 1 : Nat) : Int) - 1 = n := by omega
    rw [e]
    unfold lastN at hl
    by_cases hc : s.getD n 0 = dot
    · rw [if_pos hc] at hl
      have hc2 : ((s.getD n 0).toNat : Int) = 46 := by rw [hc]; rfl
      simp -implicitDefEqProofs (maxSteps := 500000) (disch := first | decide | omega) only [↓preS, allS, decS, simprocAttr]
      refine ⟨by omega, by omega, ?_⟩
      unfold aboveP
      rw [if_neg (by omega), hl]
      exact ⟨by omega, by omega, by omega, rfl⟩
    · rw [if_neg hc] at hl
      have hc2 : ¬ ((s.getD n 0).toNat : Int) = 46 := fun h => hc (u8_eq.1 h)
      simp -implicitDefEqProofs (maxSteps := 500000) (disch := first | decide | omega) only [↓preS, allS, decS, simprocAttr]
      refine ⟨by omega, by omega, n, .inl rfl, ⟨by omega, hl⟩, by omega⟩
structure PX where
  path : List UInt8
  x : AV
  user : Int
instance : Inhabited PX := ⟨⟨[], .top, 0⟩⟩
def ROW (q : PX) : AV := .agg [.str q.path, q.x, .int .i64 q.user]
def kidX (p : List UInt8) (q : PX) : Bool := p != [] && (aboveP q.path).1 == p
def kidsX (p : List UInt8) (qs : List PX) : List (List UInt8) := (qs.filter (kidX p)).map PX.path
theorem row_cells {a : PX} : (ROW a).cells = [.str a.path, a.x, .int .i64 a.user] := rfl
set_option maxHeartbeats 2000000 in
theorem xkids_ok (tl tq : Bool) (ls : List (List UInt8)) (qs : List PX) (p : List UInt8) (hl : qs.length ≤ 2 ^ 40) (hq : ∀ q ∈ qs, q.path.length ≤ 2 ^ 40) :
    PCall Tryd.prog 18 [.agg [.sl tl 1 (ls.map AV.str), .sl tq 3 (qs.map ROW)], .str p] (.sl false 1 ((kidsX p qs).map AV.str)) := by
  refine PCall.wk3 (acall_of is18 (by simp) ?_)
  unfold cc18
  simp -implicitDefEqProofs (maxSteps := 500000) (disch := first | decide | omega) only [↓preS, allS, decS, simprocAttr]
  unfold cc18L0
  simp -implicitDefEqProofs (maxSteps := 500000) (disch := first | decide | omega) only [↓preS, allS, decS, simprocAttr]
  refine aw_loopS (σ := Nat) (fun i => ⟨[(1, .str p), (2, .ref 0 0 0), (5, .own 1 1 0 (kidsX p (qs.take i)).length), (6, .int .i64 (i : Int))], [.box [.sl tl 1 (ls.map AV.str), .sl tq 3 (qs.map ROW)], .arr 1 ((kidsX p (qs.take i)).map AV.str)]⟩)
    (fun i => i ≤ qs.length) (fun i => qs.length - i) 0 ?_ (by omega) ?_
  · simp only [List.take_zero, kidsX, List.filter_nil, List.map_nil, List.length_nil]
    (refine Sub.ofL [some 0, none] rfl (by simp) (by decide) (by simp [partL, AO.ro, AV.ro, AV.roL, names, AO.empty, SB, U8, SI, I64, STR] <;> (try and_intros) <;> rfl) (by simp [AO.bo, AV.bo, AV.boL, names] <;> (try and_intros) <;> rfl) ?_ <;> (try simp only [List.map_cons, List.map_nil, regsL, AV.ro, AV.roL, AV.bo, AV.boL, names, get_here, get_there, Nat.reduceBEq, List.getD_cons_zero, List.getD_cons_succ, List.getD_nil, and_true, true_and, Nat.reduceLT, List.length_cons, List.length_nil, Nat.reduceAdd, decide_true, Option.isSome_some, Bool.true_or, Bool.and_self, Option.isSome_none, Bool.false_or, beq_self_eq_true, wk0_self, wk0_nils]) <;> (try and_intros) <;> (first | done | rfl | exact .inl rfl | exact .inr ⟨rfl, _, _, rfl⟩ | (simp; done) | (simp; omega) | (refine .inl ?_; simp; done) | (refine .inl ?_; simp; omega)))
  intro i hii
  unfold cc18l0
  have hlen : (kidsX p (qs.take i)).length ≤ i := by
    unfold kidsX
    rw [List.length_map]
    exact Nat.le_trans (List.length_filter_le _ _) (by simp; omega)
  by_cases hil : i < qs.length
  · have hg : qs.getD i default = qs[i] := by simp [hil]
    have hx := hq _ (List.getElem_mem hil)
    have e1 : kidsX p (qs.take (i + 1)) = kidsX p (qs.take i) ++ (if kidX p qs[i] then [qs[i].path] else []) := by
      unfold kidsX
      rw [List.take_succ_eq_append_getElem hil, List.filter_append, List.map_append]
      congr 1
      simp only [List.filter_cons, List.filter_nil]
      split <;> rfl
    generalize kidsX p (qs.take i) = m at e1 hlen
    have hk : kidX p qs[i] = (p != [] && (aboveP qs[i].path).1 == p) := rfl
    have ha := xabove_ok qs[i].path (by omega)
    generalize (aboveP qs[i].path).1 = up at hk ha
    cases hp : p == [] with
    | true =>
      have hp2 : (p != []) = false := by simp [bne, hp]
      rw [hp2, Bool.false_and] at hk
      rw [hk] at e1
      simp only [Bool.false_eq_true, if_false, List.append_nil] at e1
      simp -implicitDefEqProofs (maxSteps := 500000) (disch := first | decide | omega) only [↓preS, allS, decS, simprocAttr, hp2, hp]
      refine ⟨i + 1, ?_, by omega, by omega⟩
      rw [e1]
      (refine Sub.ofL [some 0, some 1] rfl (by simp) (by decide) (by simp [partL, AO.ro, AV.ro, AV.roL, names, AO.empty, SB, U8, SI, I64, STR] <;> (try and_intros) <;> rfl) (by simp [AO.bo, AV.bo, AV.boL, names] <;> (try and_intros) <;> rfl) ?_ <;> (try simp only [List.map_cons, List.map_nil, regsL, AV.ro, AV.roL, AV.bo, AV.boL, names, get_here, get_there, Nat.reduceBEq, List.getD_cons_zero, List.getD_cons_succ, List.getD_nil, and_true, true_and, Nat.reduceLT, List.length_cons, List.length_nil, Nat.reduceAdd, decide_true, Option.isSome_some, Bool.true_or, Bool.and_self, Option.isSome_none, Bool.false_or, beq_self_eq_true, wk0_self, wk0_nils]) <;> (try and_intros) <;> (first | done | rfl | exact .inl rfl | exact .inr ⟨rfl, _, _, rfl⟩ | (simp; done) | (simp; omega) | (refine .inl ?_; simp; done) | (refine .inl ?_; simp; omega)))
    | false =>
      have hp2 : (p != []) = true := by simp [bne, hp]
      rw [hp2, Bool.true_and] at hk
      cases hb : (up == p) with
      | false =>
        rw [hb] at hk
        rw [hk] at e1
        simp only [Bool.false_eq_true, if_false, List.append_nil] at e1
        simp -implicitDefEqProofs (maxSteps := 500000) (disch := first | decide | omega) only [↓preS, allS, decS, simprocAttr, hp2, hp, hg, row_cells]
        refine ⟨by omega, by omega, ?_⟩
        refine acK_of (FCall.of (lent := false) (ha) (.refl rfl) rfl (by simp)) ?_
        simp -implicitDefEqProofs (maxSteps := 500000) (disch := first | decide | omega) only [↓preS, allS, decS, simprocAttr, hb]
        refine ⟨i + 1, ?_, by omega, by omega⟩
        rw [e1]
        (refine Sub.ofL [some 0, some 1] rfl (by simp) (by decide) (by simp [partL, AO.ro, AV.ro, AV.roL, names, AO.empty, SB, U8, SI, I64, STR] <;> (try and_intros) <;> rfl) (by simp [AO.bo, AV.bo, AV.boL, names] <;> (try and_intros) <;> rfl) ?_ <;> (try simp only [List.map_cons, List.map_nil, regsL, AV.ro, AV.roL, AV.bo, AV.boL, names, get_here, get_there, Nat.reduceBEq, List.getD_cons_zero, List.getD_cons_succ, List.getD_nil, and_true, true_and, Nat.reduceLT, List.length_cons, List.length_nil, Nat.reduceAdd, decide_true, Option.isSome_some, Bool.true_or, Bool.and_self, Option.isSome_none, Bool.false_or, beq_self_eq_true, wk0_self, wk0_nils]) <;> (try and_intros) <;> (first | done | rfl | exact .inl rfl | exact .inr ⟨rfl, _, _, rfl⟩ | (simp; done) | (simp; omega) | (refine .inl ?_; simp; done) | (refine .inl ?_; simp; omega)))
      | true =>
        rw [hb] at hk
        rw [hk] at e1
        simp only [if_true] at e1
        simp -implicitDefEqProofs (maxSteps := 500000) (disch := first | decide | omega) only [↓preS, allS, decS, simprocAttr, hp2, hp, hg, row_cells]
        refine ⟨by omega, by omega, ?_⟩
        refine acK_of (FCall.of (lent := false) (ha) (.refl rfl) rfl (by simp)) ?_
        simp -implicitDefEqProofs (maxSteps := 500000) (disch := first | decide | omega) only [↓preS, allS, decS, simprocAttr, hb, hg, row_cells]
        refine ⟨by omega, by omega, by omega, i + 1, ?_, by omega, by omega⟩
        rw [e1]
        simp only [List.map_append, List.map_cons, List.map_nil, List.length_append, List.length_cons, List.length_nil]
        (refine Sub.ofL [some 0, some 3] rfl (by simp) (by decide) (by simp [partL, AO.ro, AV.ro, AV.roL, names, AO.empty, SB, U8, SI, I64, STR] <;> (try and_intros) <;> rfl) (by simp [AO.bo, AV.bo, AV.boL, names] <;> (try and_intros) <;> rfl) ?_ <;> (try simp only [List.map_cons, List.map_nil, regsL, AV.ro, AV.roL, AV.bo, AV.boL, names, get_here, get_there, Nat.reduceBEq, List.getD_cons_zero, List.getD_cons_succ, List.getD_nil, and_true, true_and, Nat.reduceLT, List.length_cons, List.length_nil, Nat.reduceAdd, decide_true, Option.isSome_some, Bool.true_or, Bool.and_self, Option.isSome_none, Bool.false_or, beq_self_eq_true, wk0_self, wk0_nils]) <;> (try and_intros) <;> (first | done | rfl | exact .inl rfl | exact .inr ⟨rfl, _, _, rfl⟩ | (simp; done) | (simp; omega) | (refine .inl ?_; simp; done) | (refine .inl ?_; simp; omega)))
  · have : i = qs.length := by omega
    subst this
    rw [List.take_length]
    simp -implicitDefEqProofs (maxSteps := 500000) (disch := first | decide | omega) only [↓preS, allS, decS, simprocAttr]
    exact .inl (.inl (.inl rfl))
end Go.Proofs.YtcplpegahpmnjaaDoor
