/- What functions of the program compute. No condition. -/
import Derived.Test.YtcplpegahpmnjaaDoorU1
set_option linter.unusedSimpArgs false
set_option linter.unusedVariables false
namespace Go.Proofs.YtcplpegahpmnjaaDoor
open Go Go.Ab
structure Cap where
  least : Int
  most : Int
  deriving DecidableEq, Inhabited
def capC (a : Cap) : List AV := [.int .i64 a.least, .int .i64 a.most]
def CAP (a : Cap) : AV := .agg (capC a)
theorem cap_cells {a : Cap} : (CAP a).cells = capC a := rfl
theorem cap_len {a : Cap} : (capC a).length = 2 := rfl
theorem cap_one {a : Cap} : (capC a).all AV.one = true := rfl
theorem cap_ok {a : Cap} : (capC a).all AV.ok = true := rfl
theorem cap_el {a : Cap} : (CAP a).el 2 = true := rfl
theorem cap_all {a : Cap} : partOf (capC a) 0 2 true = CAP a := rfl
theorem cap_drop {a : Cap} : (capC a).drop 2 = [] := rfl
theorem cap_0 {a : Cap} : partOf (capC a) 0 1 false = .int .i64 a.least := rfl
theorem cap_1 {a : Cap} : partOf (capC a) 1 1 false = .int .i64 a.most := rfl
theorem cap_s0 {a : Cap} {v : Int} : (capC a).take 0 ++ .int .i64 v :: (capC a).drop 1 = capC { a with least := v } := rfl
theorem cap_s1 {a : Cap} {v : Int} : (capC a).take 1 ++ .int .i64 v :: (capC a).drop 2 = capC { a with most := v } := rfl
theorem cap_nxt {P : Program} {d : Bool} {t : Nat} {l : List COper} {r : Regs} {L : St → Prop} {Lp : AV → St → Prop} {a : Cap} {H : List AO} : nxt P d t l r L Lp (CAP a) H = opsK P d l ⟨(t, CAP a) :: r, H⟩ L Lp := rfl
theorem cap_ro {a : Cap} {ρ : Nat → Option Nat} : AV.roL ρ (capC a) = capC a := rfl
theorem cap_bo {a : Cap} {ρ : Nat → Option Nat} {n : Nat} : AV.boL ρ n (capC a) = true := rfl
attribute [simp] cap_ro cap_bo
theorem cap_get {l : List Cap} {i : Nat} (h : i < l.length) : (l.map CAP).getD i .top = CAP l[i] := by simp [List.getD_eq_getElem?_getD, h]
theorem cap_upd {l : List Cap} {i : Nat} {x : Cap} : (l.map CAP).set i (elemUpd ((l.map CAP).getD i .top) 0 2 (capC x)) = (l.set i x).map CAP := by
  by_cases h : i < l.length
  · rw [cap_get h, List.map_set]; rfl
  · rw [List.set_eq_of_length_le (by simp; omega), List.set_eq_of_length_le (by omega)]
theorem cap_u0 {l : List Cap} {i : Nat} {v : Int} : (l.map CAP).set i (elemUpd ((l.map CAP).getD i .top) 0 1 [.int .i64 v]) = (l.set i { l.getD i default with least := v }).map CAP := by
  by_cases h : i < l.length
  · rw [cap_get h, List.map_set, List.getD_eq_getElem?_getD, List.getElem?_eq_getElem h]; rfl
  · rw [List.set_eq_of_length_le (by simp; omega), List.set_eq_of_length_le (by omega)]
theorem cap_u1 {l : List Cap} {i : Nat} {v : Int} : (l.map CAP).set i (elemUpd ((l.map CAP).getD i .top) 1 1 [.int .i64 v]) = (l.set i { l.getD i default with most := v }).map CAP := by
  by_cases h : i < l.length
  · rw [cap_get h, List.map_set, List.getD_eq_getElem?_getD, List.getElem?_eq_getElem h]; rfl
  · rw [List.set_eq_of_length_le (by simp; omega), List.set_eq_of_length_le (by omega)]
set_option linter.defProp false in
def capS := ai @cap_cells (ai @cap_len (ai @cap_one (ai @cap_ok (ai @cap_el (ai @cap_all (ai @cap_drop (ai @cap_0 (ai @cap_1 (ai @cap_s0 (ai @cap_s1 (ai @cap_nxt (ai @cap_ro (ai @cap_bo (ai @cap_upd (ai @cap_u0 (@cap_u1))))))))))))))))
structure Queue where
  path : List UInt8
  caps : List Cap
  user : Int
  deriving DecidableEq, Inhabited
def queC (a : Queue) : List AV := [.str a.path, .sl false 2 (a.caps.map CAP), .int .i64 a.user]
def QUE (a : Queue) : AV := .agg (queC a)
theorem que_cells {a : Queue} : (QUE a).cells = queC a := rfl
theorem que_len {a : Queue} : (queC a).length = 3 := rfl
theorem que_one {a : Queue} : (queC a).all AV.one = true := rfl
theorem que_ok {a : Queue} : (queC a).all AV.ok = true := rfl
theorem que_el {a : Queue} : (QUE a).el 3 = true := rfl
theorem que_all {a : Queue} : partOf (queC a) 0 3 true = QUE a := rfl
theorem que_drop {a : Queue} : (queC a).drop 3 = [] := rfl
theorem que_0 {a : Queue} : partOf (queC a) 0 1 false = .str a.path := rfl
theorem que_1 {a : Queue} : partOf (queC a) 1 1 false = .sl false 2 (a.caps.map CAP) := rfl
theorem que_2 {a : Queue} : partOf (queC a) 2 1 false = .int .i64 a.user := rfl
theorem que_s0 {a : Queue} {v : List UInt8} : (queC a).take 0 ++ .str v :: (queC a).drop 1 = queC { a with path := v } := rfl
theorem que_s1 {a : Queue} {v : List Cap} : (queC a).take 1 ++ .sl false 2 (v.map CAP) :: (queC a).drop 2 = queC { a with caps := v } := rfl
theorem que_s2 {a : Queue} {v : Int} : (queC a).take 2 ++ .int .i64 v :: (queC a).drop 3 = queC { a with user := v } := rfl
theorem que_nxt {P : Program} {d : Bool} {t : Nat} {l : List COper} {r : Regs} {L : St → Prop} {Lp : AV → St → Prop} {a : Queue} {H : List AO} : nxt P d t l r L Lp (QUE a) H = opsK P d l ⟨(t, QUE a) :: r, H⟩ L Lp := rfl
theorem que_ro {a : Queue} {ρ : Nat → Option Nat} : AV.roL ρ (queC a) = queC a := rfl
theorem que_bo {a : Queue} {ρ : Nat → Option Nat} {n : Nat} : AV.boL ρ n (queC a) = true := rfl
attribute [simp] que_ro que_bo
theorem que_get {l : List Queue} {i : Nat} (h : i < l.length) : (l.map QUE).getD i .top = QUE l[i] := by simp [List.getD_eq_getElem?_getD, h]
theorem que_upd {l : List Queue} {i : Nat} {x : Queue} : (l.map QUE).set i (elemUpd ((l.map QUE).getD i .top) 0 3 (queC x)) = (l.set i x).map QUE := by
  by_cases h : i < l.length
  · rw [que_get h, List.map_set]; rfl
  · rw [List.set_eq_of_length_le (by simp; omega), List.set_eq_of_length_le (by omega)]
theorem que_u0 {l : List Queue} {i : Nat} {v : List UInt8} : (l.map QUE).set i (elemUpd ((l.map QUE).getD i .top) 0 1 [.str v]) = (l.set i { l.getD i default with path := v }).map QUE := by
  by_cases h : i < l.length
  · rw [que_get h, List.map_set, List.getD_eq_getElem?_getD, List.getElem?_eq_getElem h]; rfl
  · rw [List.set_eq_of_length_le (by simp; omega), List.set_eq_of_length_le (by omega)]
theorem que_u1 {l : List Queue} {i : Nat} {v : List Cap} : (l.map QUE).set i (elemUpd ((l.map QUE).getD i .top) 1 1 [.sl false 2 (v.map CAP)]) = (l.set i { l.getD i default with caps := v }).map QUE := by
  by_cases h : i < l.length
  · rw [que_get h, List.map_set, List.getD_eq_getElem?_getD, List.getElem?_eq_getElem h]; rfl
  · rw [List.set_eq_of_length_le (by simp; omega), List.set_eq_of_length_le (by omega)]
theorem que_u2 {l : List Queue} {i : Nat} {v : Int} : (l.map QUE).set i (elemUpd ((l.map QUE).getD i .top) 2 1 [.int .i64 v]) = (l.set i { l.getD i default with user := v }).map QUE := by
  by_cases h : i < l.length
  · rw [que_get h, List.map_set, List.getD_eq_getElem?_getD, List.getElem?_eq_getElem h]; rfl
  · rw [List.set_eq_of_length_le (by simp; omega), List.set_eq_of_length_le (by omega)]
set_option linter.defProp false in
def queS := ai @que_cells (ai @que_len (ai @que_one (ai @que_ok (ai @que_el (ai @que_all (ai @que_drop (ai @que_0 (ai @que_1 (ai @que_2 (ai @que_s0 (ai @que_s1 (ai @que_s2 (ai @que_nxt (ai @que_ro (ai @que_bo (ai @que_upd (ai @que_u0 (ai @que_u1 (@que_u2)))))))))))))))))))
def idxI {α : Type} (p : α → Bool) (l : List α) : Int := if l.any p then (l.findIdx p : Nat) else -1
theorem idx_at {α : Type} {p : α → Bool} {l : List α} {i : Nat} (hi : i < l.length) (hn : ∀ j, (h : j < i) → p (l[j]'(by omega)) = false) (hp : p (l[i]'hi) = true) : idxI p l = (i : Int) := by
  unfold idxI
  have : l.any p = true := List.any_eq_true.2 ⟨_, List.getElem_mem hi, hp⟩
  rw [if_pos this]
  congr 1
  exact (List.findIdx_eq hi).2 ⟨hp, fun j hj => hn j hj⟩
theorem idx_no {α : Type} {p : α → Bool} {l : List α} (hn : ∀ j, (h : j < l.length) → p l[j] = false) : idxI p l = -1 := by
  unfold idxI
  have : l.any p = false := by
    rw [List.any_eq_false]
    intro x hx
    obtain ⟨j, hj, rfl⟩ := List.getElem_of_mem hx
    rw [hn j hj]
    simp
  rw [this]
  rfl
theorem idx_cases {α : Type} (p : α → Bool) (l : List α) : (idxI p l = -1 ∧ ∀ x ∈ l, p x = false) ∨ ∃ i : Nat, ∃ h : i < l.length, idxI p l = (i : Int) ∧ p l[i] = true ∧ ∀ j, (hj : j < i) → p (l[j]'(by omega)) = false := by
  unfold idxI
  cases h : l.any p
  · rw [List.any_eq_false] at h
    exact .inl ⟨rfl, fun x hx => by simpa using h x hx⟩
  · have hi : l.findIdx p < l.length := by
      rw [List.findIdx_lt_length]
      obtain ⟨x, hx, hp⟩ := List.any_eq_true.1 h
      exact ⟨x, hx, hp⟩
    refine .inr ⟨l.findIdx p, hi, rfl, List.findIdx_getElem (w := hi), fun j hj => ?_⟩
    have := List.not_of_lt_findIdx hj
    simpa using this
theorem queD1 {a : Queue} : partOf (List.drop 1 (queC a)) 0 1 false = .sl false 2 (a.caps.map CAP) := rfl
theorem queD2 {a : Queue} : partOf (List.drop 2 (queC a)) 0 1 false = .int .i64 a.user := rfl
theorem capD1 {a : Cap} : partOf (List.drop 1 (capC a)) 0 1 false = .int .i64 a.most := rfl
set_option linter.defProp false in
def queD := ai @queD1 (ai @queD2 @capD1)
theorem queT1 {a : Queue} {v : List Cap} : List.take 1 (queC a) ++ [AV.sl false 2 (v.map CAP)] ++ List.drop 2 (queC a) = queC { a with caps := v } := rfl
def pathP (p : List UInt8) (q : Queue) : Bool := q.path == p
theorem is29_ok (x : Queue) (p : List UInt8) : ACall Tryd.prog 29 [QUE x, .ref 0 0 0] [.box [.str p]] fun y G => y = .bool (pathP p x) ∧ G = [.box [.str p]] := by
  have key : ACall Tryd.prog 29 [QUE x, .ref 0 0 0] [.box [.str p]] fun y G => y = .bool (pathP p x) ∧ ∃ o, G = [.box [.str p], o] := by
    refine acall_at is29 (by simp) rfl ?_
    unfold cc29
    simp -implicitDefEqProofs (maxSteps := 500000) (disch := first | decide | omega) only [↓preS, allS, decS, simprocAttr, queS]
    exact ⟨rfl, _, rfl⟩
  refine key.sub ?_
  rintro y G ⟨rfl, o, rfl⟩
  refine ⟨_, _, ?_, rfl, rfl⟩
  (refine Sub.ofL [some 0] rfl (by simp) (by decide) (by simp [partL, AO.ro, AV.ro, AV.roL, names, AO.empty, SB, U8, SI, I64, STR] <;> (try and_intros) <;> rfl) (by simp [AO.bo, AV.bo, AV.boL, names] <;> (try and_intros) <;> rfl) ?_ <;> (try simp only [List.map_cons, List.map_nil, regsL, AV.ro, AV.roL, AV.bo, AV.boL, names, get_here, get_there, Nat.reduceBEq, List.getD_cons_zero, List.getD_cons_succ, List.getD_nil, and_true, true_and, Nat.reduceLT, List.length_cons, List.length_nil, Nat.reduceAdd, decide_true, Option.isSome_some, Bool.true_or, Bool.and_self, Option.isSome_none, Bool.false_or, beq_self_eq_true, wk0_self, wk0_nils]) <;> (try and_intros) <;> (first | done | rfl | exact .inl rfl | exact .inr ⟨rfl, _, _, rfl⟩ | (simp; done) | (simp; omega) | (refine .inl ?_; simp; done) | (refine .inl ?_; simp; omega)))
def FN29 : AV := .fn (.func 29) [] [.ref 0 0 0]
set_option maxHeartbeats 1000000 in
theorem idx28 (t : Bool) (p : List UInt8) (l : List Queue) (hl : l.length < 2 ^ 63) : ACall Tryd.prog 28 [.sl t 3 (l.map QUE), FN29] [.box [.str p]] fun y G => y = .int .i64 (idxI (pathP p) l) ∧ G = [.box [.str p]] := by
  refine acall_at is28 (by simp) rfl ?_
  unfold cc28 FN29
  simp -implicitDefEqProofs (maxSteps := 500000) (disch := first | decide | omega) only [↓preS, allS, decS, simprocAttr]
  unfold cc28L0
  simp -implicitDefEqProofs (maxSteps := 500000) (disch := first | decide | omega) only [↓preS, allS, decS, simprocAttr]
  refine aw_loopS (σ := Nat) (fun i => ⟨[(0, .sl t 3 (l.map QUE)), (1, .fn (.func 29) [] [.ref 0 0 0]), (7, .int .i64 (l.length : Int)), (8, .int .i64 (i : Int))], [.box [.str p]]⟩)
    (fun i => i ≤ l.length ∧ ∀ j, (h : j < i) → (h2 : j < l.length) → pathP p l[j] = false) (fun i => l.length - i) 0 (.inl rfl) ⟨by omega, fun j h => by omega⟩ ?_
  rintro i ⟨hii, hn⟩
  unfold cc28l0
  by_cases hil : i < l.length
  · have hg : l.getD i default = l[i] := by simp [hil]
    simp -implicitDefEqProofs (maxSteps := 500000) (disch := first | decide | omega) only [↓preS, allS, decS, simprocAttr, queS]
    refine ⟨by omega, by omega, ?_⟩
    refine (is29_ok _ p).to ?_
    rintro y G ⟨rfl, rfl⟩
    rw [hg]
    cases hp : pathP p l[i]
    · simp -implicitDefEqProofs (maxSteps := 500000) (disch := first | decide | omega) only [↓preS, allS, decS, simprocAttr]
      refine ⟨i + 1, .inl rfl, ⟨by omega, fun j h h2 => ?_⟩, by omega⟩
      by_cases hj : j = i
      · subst hj; exact hp
      · exact hn j (by omega) h2
    · simp -implicitDefEqProofs (maxSteps := 500000) (disch := first | decide | omega) only [↓preS, allS, decS, simprocAttr]
      rw [idx_at hil (fun j hj => hn j hj (by omega)) hp]
  · have : i = l.length := by omega
    subst this
    simp -implicitDefEqProofs (maxSteps := 500000) (disch := first | decide | omega) only [↓preS, allS, decS, simprocAttr]
    rw [idx_no fun j hj => hn j hj hj]
theorem cl30 (t : Bool) (l : List Cap) (h : l ≠ []) (hl : l.length ≤ 2 ^ 40) : PCall Tryd.prog 30 [.sl t 2 (l.map CAP)] (.sl false 2 (l.map CAP)) := by
  unfold PCall
  refine acall_of is30 (by simp) ?_
  unfold cc30
  simp -implicitDefEqProofs (maxSteps := 500000) (disch := first | decide | omega) only [↓preS, allS, decS, simprocAttr]
  exact ⟨fun e => absurd (List.map_eq_nil_iff.1 e) h, by omega, by omega⟩
def CONF (tl tq : Bool) (ls : List (List UInt8)) (qs : List Queue) : AV := .agg [.sl tl 1 (ls.map AV.str), .sl tq 3 (qs.map QUE)]
set_option maxHeartbeats 1000000 in
theorem find_ok (tl tq : Bool) (ls : List (List UInt8)) (qs : List Queue) (p : List UInt8) (hl : qs.length < 2 ^ 63) (i : Nat) (hi : i < qs.length) (h : idxI (pathP p) qs = (i : Int)) (hc : qs[i].caps ≠ [] ∧ qs[i].caps.length ≤ 2 ^ 40) :
    PCall Tryd.prog 14 [CONF tl tq ls qs, .str p] (.tup [QUE qs[i], .bool true]) := by
  unfold PCall
  have hg : qs.getD i default = qs[i] := by simp [hi]
  refine acallR_of isR14 (by simp) ?_
  unfold cc14 CONF
  simp -implicitDefEqProofs (maxSteps := 500000) (disch := first | decide | omega) only [↓preS, allS, decS, simprocAttr]
  refine ((idx28 tq p qs hl).frame [1] rfl (by simp) (by simp) ?_ rfl).to ?_
  · intro k o hk
    match k, hk with
    | 0, hk => simp only [List.getElem?_cons_zero, Option.some.injEq] at hk; subst hk; exact ⟨rfl, rfl⟩
    | k + 1, hk => simp at hk
  rintro y G ⟨y0, Hr, ⟨rfl, rfl⟩, rfl, rfl⟩
  rw [h]
  simp -implicitDefEqProofs (maxSteps := 500000) (disch := first | decide | omega) only [↓preS, allS, decS, simprocAttr, AV.ren, AO.ren, spl, setAll, queS, hg, List.append_nil]
  refine ⟨by omega, by omega, ?_⟩
  refine acK_of (FCall.of (lent := false) (cl30 false _ hc.1 hc.2) (.refl rfl) rfl (by simp)) ?_
  simp -implicitDefEqProofs (maxSteps := 500000) (disch := first | decide | omega) only [↓preS, allS, decS, simprocAttr, queS, queT1, List.append_nil]
def kidP (p : List UInt8) (q : Queue) : Bool := (aboveP q.path).2 && (aboveP q.path).1 == p
def kidsL (p : List UInt8) (qs : List Queue) : List (List UInt8) := (qs.filter (kidP p)).map Queue.path
structure QOk (q : Queue) : Prop where
  path : q.path.length ≤ 2 ^ 40
  caps : q.caps ≠ []
  len : q.caps.length ≤ 2 ^ 40
set_option maxHeartbeats 2000000 in
theorem kids_ok (tl tq : Bool) (ls : List (List UInt8)) (qs : List Queue) (p : List UInt8) (hl : qs.length ≤ 2 ^ 40) (hq : ∀ q ∈ qs, QOk q) :
    PCall Tryd.prog 17 [CONF tl tq ls qs, .str p] (.sl false 1 ((kidsL p qs).map AV.str)) := by
  refine PCall.wk3 (acall_of is17 (by simp) ?_)
  unfold cc17 CONF
  simp -implicitDefEqProofs (maxSteps := 500000) (disch := first | decide | omega) only [↓preS, allS, decS, simprocAttr]
  unfold cc17L0
  simp -implicitDefEqProofs (maxSteps := 500000) (disch := first | decide | omega) only [↓preS, allS, decS, simprocAttr]
  refine aw_loopS (σ := Nat) (fun i => ⟨[(1, .str p), (5, .own 1 1 0 (kidsL p (qs.take i)).length), (11, .sl tq 3 (qs.map QUE)), (12, .int .i64 (qs.length : Int)), (13, .int .i64 (i : Int))], [.box [.sl tl 1 (ls.map AV.str), .sl tq 3 (qs.map QUE)], .arr 1 ((kidsL p (qs.take i)).map AV.str)]⟩)
    (fun i => i ≤ qs.length) (fun i => qs.length - i) 0 ?_ (by omega) ?_
  · simp only [List.take_zero, kidsL, List.filter_nil, List.map_nil, List.length_nil]
    (refine Sub.ofL [some 0, none] rfl (by simp) (by decide) (by simp [partL, AO.ro, AV.ro, AV.roL, names, AO.empty, SB, U8, SI, I64, STR] <;> (try and_intros) <;> rfl) (by simp [AO.bo, AV.bo, AV.boL, names] <;> (try and_intros) <;> rfl) ?_ <;> (try simp only [List.map_cons, List.map_nil, regsL, AV.ro, AV.roL, AV.bo, AV.boL, names, get_here, get_there, Nat.reduceBEq, List.getD_cons_zero, List.getD_cons_succ, List.getD_nil, and_true, true_and, Nat.reduceLT, List.length_cons, List.length_nil, Nat.reduceAdd, decide_true, Option.isSome_some, Bool.true_or, Bool.and_self, Option.isSome_none, Bool.false_or, beq_self_eq_true, wk0_self, wk0_nils]) <;> (try and_intros) <;> (first | done | rfl | exact .inl rfl | exact .inr ⟨rfl, _, _, rfl⟩ | (simp; done) | (simp; omega) | (refine .inl ?_; simp; done) | (refine .inl ?_; simp; omega)))
  intro i hii
  unfold cc17l0
  have hlen : (kidsL p (qs.take i)).length ≤ i := by
    unfold kidsL
    rw [List.length_map]
    exact Nat.le_trans (List.length_filter_le _ _) (by simp; omega)
  by_cases hil : i < qs.length
  · have hg : qs.getD i default = qs[i] := by simp [hil]
    have hx := hq _ (List.getElem_mem hil)
    have e1 : kidsL p (qs.take (i + 1)) = kidsL p (qs.take i) ++ (if kidP p qs[i] then [qs[i].path] else []) := by
      unfold kidsL
      rw [List.take_succ_eq_append_getElem hil, List.filter_append, List.map_append]
      congr 1
      simp only [List.filter_cons, List.filter_nil]
      split <;> rfl
    generalize kidsL p (qs.take i) = m at e1 hlen
    have hk : kidP p qs[i] = ((aboveP qs[i].path).2 && (aboveP qs[i].path).1 == p) := rfl
    have ha := above_ok qs[i].path (by have := hx.path; omega)
    generalize aboveP qs[i].path = ab at hk ha
    obtain ⟨up, has⟩ := ab
    simp only at hk ha
    simp -implicitDefEqProofs (maxSteps := 500000) (disch := first | decide | omega) only [↓preS, allS, decS, simprocAttr, queS, hg, List.append_nil]
    refine ⟨by omega, by omega, ?_⟩
    refine acK_of (FCall.of (lent := false) (ha) (.refl rfl) rfl (by simp)) ?_
    cases has with
    | false =>
      rw [Bool.false_and] at hk
      rw [hk] at e1
      simp only [Bool.false_eq_true, if_false, List.append_nil] at e1
      simp -implicitDefEqProofs (maxSteps := 500000) (disch := first | decide | omega) only [↓preS, allS, decS, simprocAttr]
      refine ⟨i + 1, ?_, by omega, by omega⟩
      rw [e1]
      (refine Sub.ofL [some 0, some 1] rfl (by simp) (by decide) (by simp [partL, AO.ro, AV.ro, AV.roL, names, AO.empty, SB, U8, SI, I64, STR] <;> (try and_intros) <;> rfl) (by simp [AO.bo, AV.bo, AV.boL, names] <;> (try and_intros) <;> rfl) ?_ <;> (try simp only [List.map_cons, List.map_nil, regsL, AV.ro, AV.roL, AV.bo, AV.boL, names, get_here, get_there, Nat.reduceBEq, List.getD_cons_zero, List.getD_cons_succ, List.getD_nil, and_true, true_and, Nat.reduceLT, List.length_cons, List.length_nil, Nat.reduceAdd, decide_true, Option.isSome_some, Bool.true_or, Bool.and_self, Option.isSome_none, Bool.false_or, beq_self_eq_true, wk0_self, wk0_nils]) <;> (try and_intros) <;> (first | done | rfl | exact .inl rfl | exact .inr ⟨rfl, _, _, rfl⟩ | (simp; done) | (simp; omega) | (refine .inl ?_; simp; done) | (refine .inl ?_; simp; omega)))
    | true =>
      rw [Bool.true_and] at hk
      cases hb : (up == p) with
      | false =>
        rw [hb] at hk
        rw [hk] at e1
        simp only [Bool.false_eq_true, if_false, List.append_nil] at e1
        simp -implicitDefEqProofs (maxSteps := 500000) (disch := first | decide | omega) only [↓preS, allS, decS, simprocAttr, hb]
        refine ⟨i + 1, ?_, by omega, by omega⟩
        rw [e1]
        (refine Sub.ofL [some 0, some 1] rfl (by simp) (by decide) (by simp [partL, AO.ro, AV.ro, AV.roL, names, AO.empty, SB, U8, SI, I64, STR] <;> (try and_intros) <;> rfl) (by simp [AO.bo, AV.bo, AV.boL, names] <;> (try and_intros) <;> rfl) ?_ <;> (try simp only [List.map_cons, List.map_nil, regsL, AV.ro, AV.roL, AV.bo, AV.boL, names, get_here, get_there, Nat.reduceBEq, List.getD_cons_zero, List.getD_cons_succ, List.getD_nil, and_true, true_and, Nat.reduceLT, List.length_cons, List.length_nil, Nat.reduceAdd, decide_true, Option.isSome_some, Bool.true_or, Bool.and_self, Option.isSome_none, Bool.false_or, beq_self_eq_true, wk0_self, wk0_nils]) <;> (try and_intros) <;> (first | done | rfl | exact .inl rfl | exact .inr ⟨rfl, _, _, rfl⟩ | (simp; done) | (simp; omega) | (refine .inl ?_; simp; done) | (refine .inl ?_; simp; omega)))
      | true =>
        rw [hb] at hk
        rw [hk] at e1
        simp only [if_true] at e1
        simp -implicitDefEqProofs (maxSteps := 500000) (disch := first | decide | omega) only [↓preS, allS, decS, simprocAttr, hb, queS]
        refine ⟨by omega, i + 1, ?_, by omega, by omega⟩
        rw [e1]
        simp only [List.map_append, List.map_cons, List.map_nil, List.length_append, List.length_cons, List.length_nil]
        (refine Sub.ofL [some 0, some 4] rfl (by simp) (by decide) (by simp [partL, AO.ro, AV.ro, AV.roL, names, AO.empty, SB, U8, SI, I64, STR] <;> (try and_intros) <;> rfl) (by simp [AO.bo, AV.bo, AV.boL, names] <;> (try and_intros) <;> rfl) ?_ <;> (try simp only [List.map_cons, List.map_nil, regsL, AV.ro, AV.roL, AV.bo, AV.boL, names, get_here, get_there, Nat.reduceBEq, List.getD_cons_zero, List.getD_cons_succ, List.getD_nil, and_true, true_and, Nat.reduceLT, List.length_cons, List.length_nil, Nat.reduceAdd, decide_true, Option.isSome_some, Bool.true_or, Bool.and_self, Option.isSome_none, Bool.false_or, beq_self_eq_true, wk0_self, wk0_nils]) <;> (try and_intros) <;> (first | done | rfl | exact .inl rfl | exact .inr ⟨rfl, _, _, rfl⟩ | (simp; done) | (simp; omega) | (refine .inl ?_; simp; done) | (refine .inl ?_; simp; omega)))
  · have : i = qs.length := by omega
    subst this
    rw [List.take_length]
    simp -implicitDefEqProofs (maxSteps := 500000) (disch := first | decide | omega) only [↓preS, allS, decS, simprocAttr]
    exact .inl (.inl (.inl rfl))
theorem idx_cases0 {α : Type} (p : α → Bool) (l : List α) : (idxI p l = -1 ∧ l.any p = false) ∨ ∃ i : Nat, ∃ h : i < l.length, idxI p l = (i : Int) ∧ l.any p = true := by
  rcases idx_cases p l with ⟨h1, h2⟩ | ⟨i, hi, h1, h2, h3⟩
  · exact .inl ⟨h1, List.any_eq_false.2 fun x hx => by rw [h2 x hx]; simp⟩
  · exact .inr ⟨i, hi, h1, List.any_eq_true.2 ⟨_, List.getElem_mem hi, h2⟩⟩
end Go.Proofs.YtcplpegahpmnjaaDoor
