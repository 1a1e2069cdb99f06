/- What functions of the program compute. No condition. -/
import Derived.Test.YtlgdinihbomlpaaR4Code
import Derived.Test.YtlgdinihbomlpaaL4
import Derived.Test.YtlgdinihbomlpaaL3
set_option linter.unusedSimpArgs false
set_option linter.unusedVariables false
namespace Go.Proofs.Ytlgdinihbomlpaa
open Go Go.Ab

/-- A node, as data. -/
structure Node where
  id : Int
  label : Int
  rack : Int
  mem : Int
  cores : Int
  seen : Int
  beat : Int
  up : Bool
  deriving DecidableEq, Inhabited
def nodeC (a : Node) : List AV := [.int .i64 a.id, .int .i64 a.label, .int .i64 a.rack, .int .i64 a.mem, .int .i64 a.cores, .int .i64 a.seen, .int .i64 a.beat, .bool a.up]
def NODE (a : Node) : AV := .agg (nodeC a)
theorem node_cells {a : Node} : (NODE a).cells = nodeC a := rfl
theorem node_len {a : Node} : (nodeC a).length = 8 := rfl
theorem node_one {a : Node} : (nodeC a).all AV.one = true := rfl
theorem node_ok {a : Node} : (nodeC a).all AV.ok = true := rfl
theorem node_el {a : Node} : (NODE a).el 8 = true := rfl
theorem node_all {a : Node} : partOf (nodeC a) 0 8 true = NODE a := rfl
theorem node_drop {a : Node} : (nodeC a).drop 8 = [] := rfl
theorem node_0 {a : Node} : partOf (nodeC a) 0 1 false = .int .i64 a.id := rfl
theorem node_1 {a : Node} : partOf (nodeC a) 1 1 false = .int .i64 a.label := rfl
theorem node_2 {a : Node} : partOf (nodeC a) 2 1 false = .int .i64 a.rack := rfl
theorem node_3 {a : Node} : partOf (nodeC a) 3 1 false = .int .i64 a.mem := rfl
theorem node_4 {a : Node} : partOf (nodeC a) 4 1 false = .int .i64 a.cores := rfl
theorem node_5 {a : Node} : partOf (nodeC a) 5 1 false = .int .i64 a.seen := rfl
theorem node_6 {a : Node} : partOf (nodeC a) 6 1 false = .int .i64 a.beat := rfl
theorem node_7 {a : Node} : partOf (nodeC a) 7 1 false = .bool a.up := rfl
theorem node_g3 {a : Node} : partOf (nodeC a) 3 2 true = .agg [.int .i64 a.mem, .int .i64 a.cores] := rfl
theorem node_s0 {a : Node} {v : Int} : (nodeC a).take 0 ++ .int .i64 v :: (nodeC a).drop 1 = nodeC { a with id := v } := rfl
theorem node_s1 {a : Node} {v : Int} : (nodeC a).take 1 ++ .int .i64 v :: (nodeC a).drop 2 = nodeC { a with label := v } := rfl
theorem node_s2 {a : Node} {v : Int} : (nodeC a).take 2 ++ .int .i64 v :: (nodeC a).drop 3 = nodeC { a with rack := v } := rfl
theorem node_s3 {a : Node} {v : Int} : (nodeC a).take 3 ++ .int .i64 v :: (nodeC a).drop 4 = nodeC { a with mem := v } := rfl
theorem node_s4 {a : Node} {v : Int} : (nodeC a).take 4 ++ .int .i64 v :: (nodeC a).drop 5 = nodeC { a with cores := v } := rfl
theorem node_s5 {a : Node} {v : Int} : (nodeC a).take 5 ++ .int .i64 v :: (nodeC a).drop 6 = nodeC { a with seen := v } := rfl
theorem node_s6 {a : Node} {v : Int} : (nodeC a).take 6 ++ .int .i64 v :: (nodeC a).drop 7 = nodeC { a with beat := v } := rfl
theorem node_s7 {a : Node} {v : Bool} : (nodeC a).take 7 ++ .bool v :: (nodeC a).drop 8 = nodeC { a with up := v } := rfl
theorem node_nxt {P : Program} {d : Bool} {t : Nat} {l : List COper} {r : Regs} {L : St → Prop} {Lp : AV → St → Prop} {a : Node} {H : List AO} : nxt P d t l r L Lp (NODE a) H = opsK P d l ⟨(t, NODE a) :: r, H⟩ L Lp := rfl
theorem node_ro {a : Node} {ρ : Nat → Option Nat} : AV.roL ρ (nodeC a) = nodeC a := rfl
theorem node_bo {a : Node} {ρ : Nat → Option Nat} {n : Nat} : AV.boL ρ n (nodeC a) = true := rfl
attribute [simp] node_ro node_bo
theorem node_get {l : List Node} {i : Nat} (h : i < l.length) : (l.map NODE).getD i .top = NODE l[i] := by simp [List.getD_eq_getElem?_getD, h]
theorem node_upd {l : List Node} {i : Nat} {x : Node} : (l.map NODE).set i (elemUpd ((l.map NODE).getD i .top) 0 8 (nodeC x)) = (l.set i x).map NODE := by
  by_cases h : i < l.length
  · rw [node_get h, List.map_set]; rfl
  · rw [List.set_eq_of_length_le (by simp; omega), List.set_eq_of_length_le (by omega)]
theorem node_u0 {l : List Node} {i : Nat} {v : Int} : (l.map NODE).set i (elemUpd ((l.map NODE).getD i .top) 0 1 [.int .i64 v]) = (l.set i { l.getD i default with id := v }).map NODE := by
  by_cases h : i < l.length
  · rw [node_get h, List.map_set, List.getD_eq_getElem?_getD, List.getElem?_eq_getElem h]; rfl
  · rw [List.set_eq_of_length_le (by simp; omega), List.set_eq_of_length_le (by omega)]
theorem node_u1 {l : List Node} {i : Nat} {v : Int} : (l.map NODE).set i (elemUpd ((l.map NODE).getD i .top) 1 1 [.int .i64 v]) = (l.set i { l.getD i default with label := v }).map NODE := by
  by_cases h : i < l.length
  · rw [node_get h, List.map_set, List.getD_eq_getElem?_getD, List.getElem?_eq_getElem h]; rfl
  · rw [List.set_eq_of_length_le (by simp; omega), List.set_eq_of_length_le (by omega)]
theorem node_u2 {l : List Node} {i : Nat} {v : Int} : (l.map NODE).set i (elemUpd ((l.map NODE).getD i .top) 2 1 [.int .i64 v]) = (l.set i { l.getD i default with rack := v }).map NODE := by
  by_cases h : i < l.length
  · rw [node_get h, List.map_set, List.getD_eq_getElem?_getD, List.getElem?_eq_getElem h]; rfl
  · rw [List.set_eq_of_length_le (by simp; omega), List.set_eq_of_length_le (by omega)]
theorem node_u3 {l : List Node} {i : Nat} {v : Int} : (l.map NODE).set i (elemUpd ((l.map NODE).getD i .top) 3 1 [.int .i64 v]) = (l.set i { l.getD i default with mem := v }).map NODE := by
  by_cases h : i < l.length
  · rw [node_get h, List.map_set, List.getD_eq_getElem?_getD, List.getElem?_eq_getElem h]; rfl
  · rw [List.set_eq_of_length_le (by simp; omega), List.set_eq_of_length_le (by omega)]
theorem node_u4 {l : List Node} {i : Nat} {v : Int} : (l.map NODE).set i (elemUpd ((l.map NODE).getD i .top) 4 1 [.int .i64 v]) = (l.set i { l.getD i default with cores := v }).map NODE := by
  by_cases h : i < l.length
  · rw [node_get h, List.map_set, List.getD_eq_getElem?_getD, List.getElem?_eq_getElem h]; rfl
  · rw [List.set_eq_of_length_le (by simp; omega), List.set_eq_of_length_le (by omega)]
theorem node_u5 {l : List Node} {i : Nat} {v : Int} : (l.map NODE).set i (elemUpd ((l.map NODE).getD i .top) 5 1 [.int .i64 v]) = (l.set i { l.getD i default with seen := v }).map NODE := by
  by_cases h : i < l.length
  · rw [node_get h, List.map_set, List.getD_eq_getElem?_getD, List.getElem?_eq_getElem h]; rfl
  · rw [List.set_eq_of_length_le (by simp; omega), List.set_eq_of_length_le (by omega)]
theorem node_u6 {l : List Node} {i : Nat} {v : Int} : (l.map NODE).set i (elemUpd ((l.map NODE).getD i .top) 6 1 [.int .i64 v]) = (l.set i { l.getD i default with beat := v }).map NODE := by
  by_cases h : i < l.length
  · rw [node_get h, List.map_set, List.getD_eq_getElem?_getD, List.getElem?_eq_getElem h]; rfl
  · rw [List.set_eq_of_length_le (by simp; omega), List.set_eq_of_length_le (by omega)]
theorem node_u7 {l : List Node} {i : Nat} {v : Bool} : (l.map NODE).set i (elemUpd ((l.map NODE).getD i .top) 7 1 [.bool v]) = (l.set i { l.getD i default with up := v }).map NODE := by
  by_cases h : i < l.length
  · rw [node_get h, List.map_set, List.getD_eq_getElem?_getD, List.getElem?_eq_getElem h]; rfl
  · rw [List.set_eq_of_length_le (by simp; omega), List.set_eq_of_length_le (by omega)]
set_option linter.defProp false in
def nodeS := ai @node_cells (ai @node_len (ai @node_one (ai @node_ok (ai @node_el (ai @node_all (ai @node_drop (ai @node_0 (ai @node_1 (ai @node_2 (ai @node_3 (ai @node_4 (ai @node_5 (ai @node_6 (ai @node_7 (ai @node_g3 (ai @node_s0 (ai @node_s1 (ai @node_s2 (ai @node_s3 (ai @node_s4 (ai @node_s5 (ai @node_s6 (ai @node_s7 (ai @node_nxt (ai @node_ro (ai @node_bo (ai @node_upd (ai @node_u0 (ai @node_u1 (ai @node_u2 (ai @node_u3 (ai @node_u4 (ai @node_u5 (ai @node_u6 (@node_u7)))))))))))))))))))))))))))))))))))
structure Cap where
  least : Int
  most : Int
  deriving DecidableEq, Inhabited
def capC (a : Cap) : List AV := [.int .i64 a.least, .int .i64 a.most]
def CAP (a : Cap) : AV := .agg (capC a)
theorem cap_cells {a : Cap} : (CAP a).cells = capC a := rfl
theorem cap_len {a : Cap} : (capC a).length = 2 := rfl
theorem cap_one {a : Cap} : (capC a).all AV.one = true := rfl
theorem cap_ok {a : Cap} : (capC a).all AV.ok = true := rfl
theorem cap_el {a : Cap} : (CAP a).el 2 = true := rfl
theorem cap_all {a : Cap} : partOf (capC a) 0 2 true = CAP a := rfl
theorem cap_drop {a : Cap} : (capC a).drop 2 = [] := rfl
theorem cap_0 {a : Cap} : partOf (capC a) 0 1 false = .int .i64 a.least := rfl
theorem cap_1 {a : Cap} : partOf (capC a) 1 1 false = .int .i64 a.most := rfl
theorem cap_s0 {a : Cap} {v : Int} : (capC a).take 0 ++ .int .i64 v :: (capC a).drop 1 = capC { a with least := v } := rfl
theorem cap_s1 {a : Cap} {v : Int} : (capC a).take 1 ++ .int .i64 v :: (capC a).drop 2 = capC { a with most := v } := rfl
theorem cap_nxt {P : Program} {d : Bool} {t : Nat} {l : List COper} {r : Regs} {L : St → Prop} {Lp : AV → St → Prop} {a : Cap} {H : List AO} : nxt P d t l r L Lp (CAP a) H = opsK P d l ⟨(t, CAP a) :: r, H⟩ L Lp := rfl
theorem cap_ro {a : Cap} {ρ : Nat → Option Nat} : AV.roL ρ (capC a) = capC a := rfl
theorem cap_bo {a : Cap} {ρ : Nat → Option Nat} {n : Nat} : AV.boL ρ n (capC a) = true := rfl
attribute [simp] cap_ro cap_bo
theorem cap_get {l : List Cap} {i : Nat} (h : i < l.length) : (l.map CAP).getD i .top = CAP l[i] := by simp [List.getD_eq_getElem?_getD, h]
theorem cap_upd {l : List Cap} {i : Nat} {x : Cap} : (l.map CAP).set i (elemUpd ((l.map CAP).getD i .top) 0 2 (capC x)) = (l.set i x).map CAP := by
  by_cases h : i < l.length
  · rw [cap_get h, List.map_set]; rfl
  · rw [List.set_eq_of_length_le (by simp; omega), List.set_eq_of_length_le (by omega)]
theorem cap_u0 {l : List Cap} {i : Nat} {v : Int} : (l.map CAP).set i (elemUpd ((l.map CAP).getD i .top) 0 1 [.int .i64 v]) = (l.set i { l.getD i default with least := v }).map CAP := by
  by_cases h : i < l.length
  · rw [cap_get h, List.map_set, List.getD_eq_getElem?_getD, List.getElem?_eq_getElem h]; rfl
  · rw [List.set_eq_of_length_le (by simp; omega), List.set_eq_of_length_le (by omega)]
theorem cap_u1 {l : List Cap} {i : Nat} {v : Int} : (l.map CAP).set i (elemUpd ((l.map CAP).getD i .top) 1 1 [.int .i64 v]) = (l.set i { l.getD i default with most := v }).map CAP := by
  by_cases h : i < l.length
  · rw [cap_get h, List.map_set, List.getD_eq_getElem?_getD, List.getElem?_eq_getElem h]; rfl
  · rw [List.set_eq_of_length_le (by simp; omega), List.set_eq_of_length_le (by omega)]
set_option linter.defProp false in
def capS := ai @cap_cells (ai @cap_len (ai @cap_one (ai @cap_ok (ai @cap_el (ai @cap_all (ai @cap_drop (ai @cap_0 (ai @cap_1 (ai @cap_s0 (ai @cap_s1 (ai @cap_nxt (ai @cap_ro (ai @cap_bo (ai @cap_upd (ai @cap_u0 (@cap_u1))))))))))))))))
structure Queue where
  path : List UInt8
  caps : List Cap
  user : Int
  deriving DecidableEq, Inhabited
def queC (a : Queue) : List AV := [.str a.path, .sl false 2 (a.caps.map CAP), .int .i64 a.user]
def QUE (a : Queue) : AV := .agg (queC a)
theorem que_cells {a : Queue} : (QUE a).cells = queC a := rfl
theorem que_len {a : Queue} : (queC a).length = 3 := rfl
theorem que_one {a : Queue} : (queC a).all AV.one = true := rfl
theorem que_ok {a : Queue} : (queC a).all AV.ok = true := rfl
theorem que_el {a : Queue} : (QUE a).el 3 = true := rfl
theorem que_all {a : Queue} : partOf (queC a) 0 3 true = QUE a := rfl
theorem que_drop {a : Queue} : (queC a).drop 3 = [] := rfl
theorem que_0 {a : Queue} : partOf (queC a) 0 1 false = .str a.path := rfl
theorem que_1 {a : Queue} : partOf (queC a) 1 1 false = .sl false 2 (a.caps.map CAP) := rfl
theorem que_2 {a : Queue} : partOf (queC a) 2 1 false = .int .i64 a.user := rfl
theorem que_s0 {a : Queue} {v : List UInt8} : (queC a).take 0 ++ .str v :: (queC a).drop 1 = queC { a with path := v } := rfl
theorem que_s1 {a : Queue} {v : List Cap} : (queC a).take 1 ++ .sl false 2 (v.map CAP) :: (queC a).drop 2 = queC { a with caps := v } := rfl
theorem que_s2 {a : Queue} {v : Int} : (queC a).take 2 ++ .int .i64 v :: (queC a).drop 3 = queC { a with user := v } := rfl
theorem que_nxt {P : Program} {d : Bool} {t : Nat} {l : List COper} {r : Regs} {L : St → Prop} {Lp : AV → St → Prop} {a : Queue} {H : List AO} : nxt P d t l r L Lp (QUE a) H = opsK P d l ⟨(t, QUE a) :: r, H⟩ L Lp := rfl
theorem que_ro {a : Queue} {ρ : Nat → Option Nat} : AV.roL ρ (queC a) = queC a := rfl
theorem que_bo {a : Queue} {ρ : Nat → Option Nat} {n : Nat} : AV.boL ρ n (queC a) = true := rfl
attribute [simp] que_ro que_bo
theorem que_get {l : List Queue} {i : Nat} (h : i < l.length) : (l.map QUE).getD i .top = QUE l[i] := by simp [List.getD_eq_getElem?_getD, h]
theorem que_upd {l : List Queue} {i : Nat} {x : Queue} : (l.map QUE).set i (elemUpd ((l.map QUE).getD i .top) 0 3 (queC x)) = (l.set i x).map QUE := by
  by_cases h : i < l.length
  · rw [que_get h, List.map_set]; rfl
  · rw [List.set_eq_of_length_le (by simp; omega), List.set_eq_of_length_le (by omega)]
theorem que_u0 {l : List Queue} {i : Nat} {v : List UInt8} : (l.map QUE).set i (elemUpd ((l.map QUE).getD i .top) 0 1 [.str v]) = (l.set i { l.getD i default with path := v }).map QUE := by
  by_cases h : i < l.length
  · rw [que_get h, List.map_set, List.getD_eq_getElem?_getD, List.getElem?_eq_getElem h]; rfl
  · rw [List.set_eq_of_length_le (by simp; omega), List.set_eq_of_length_le (by omega)]
theorem que_u1 {l : List Queue} {i : Nat} {v : List Cap} : (l.map QUE).set i (elemUpd ((l.map QUE).getD i .top) 1 1 [.sl false 2 (v.map CAP)]) = (l.set i { l.getD i default with caps := v }).map QUE := by
  by_cases h : i < l.length
  · rw [que_get h, List.map_set, List.getD_eq_getElem?_getD, List.getElem?_eq_getElem h]; rfl
  · rw [List.set_eq_of_length_le (by simp; omega), List.set_eq_of_length_le (by omega)]
theorem que_u2 {l : List Queue} {i : Nat} {v : Int} : (l.map QUE).set i (elemUpd ((l.map QUE).getD i .top) 2 1 [.int .i64 v]) = (l.set i { l.getD i default with user := v }).map QUE := by
  by_cases h : i < l.length
  · rw [que_get h, List.map_set, List.getD_eq_getElem?_getD, List.getElem?_eq_getElem h]; rfl
  · rw [List.set_eq_of_length_le (by simp; omega), List.set_eq_of_length_le (by omega)]
set_option linter.defProp false in
def queS := ai @que_cells (ai @que_len (ai @que_one (ai @que_ok (ai @que_el (ai @que_all (ai @que_drop (ai @que_0 (ai @que_1 (ai @que_2 (ai @que_s0 (ai @que_s1 (ai @que_s2 (ai @que_nxt (ai @que_ro (ai @que_bo (ai @que_upd (ai @que_u0 (ai @que_u1 (@que_u2)))))))))))))))))))
theorem nodeT0 {a : Node} {v : Int} : List.take 0 (nodeC a) ++ [AV.int .i64 v] ++ List.drop 1 (nodeC a) = nodeC { a with id := v } := rfl
theorem nodeT1 {a : Node} {v : Int} : List.take 1 (nodeC a) ++ [AV.int .i64 v] ++ List.drop 2 (nodeC a) = nodeC { a with label := v } := rfl
theorem nodeT2 {a : Node} {v : Int} : List.take 2 (nodeC a) ++ [AV.int .i64 v] ++ List.drop 3 (nodeC a) = nodeC { a with rack := v } := rfl
theorem nodeT3 {a : Node} {v : Int} : List.take 3 (nodeC a) ++ [AV.int .i64 v] ++ List.drop 4 (nodeC a) = nodeC { a with mem := v } := rfl
theorem nodeT4 {a : Node} {v : Int} : List.take 4 (nodeC a) ++ [AV.int .i64 v] ++ List.drop 5 (nodeC a) = nodeC { a with cores := v } := rfl
theorem nodeT5 {a : Node} {v : Int} : List.take 5 (nodeC a) ++ [AV.int .i64 v] ++ List.drop 6 (nodeC a) = nodeC { a with seen := v } := rfl
theorem nodeT6 {a : Node} {v : Int} : List.take 6 (nodeC a) ++ [AV.int .i64 v] ++ List.drop 7 (nodeC a) = nodeC { a with beat := v } := rfl
theorem nodeT7 {a : Node} {v : Bool} : List.take 7 (nodeC a) ++ [AV.bool v] ++ [] = nodeC { a with up := v } := rfl
theorem nodeTy {a : Node} {v : Bool} : List.take 7 (nodeC a) ++ [AV.bool v] = nodeC { a with up := v } := rfl
theorem nodeTz {a : Node} {v : Int} : AV.int .i64 v :: List.drop 1 (nodeC a) = nodeC { a with id := v } := rfl
set_option linter.defProp false in
def nodeT := ai @nodeT0 (ai @nodeT1 (ai @nodeT2 (ai @nodeT3 (ai @nodeT4 (ai @nodeT5 (ai @nodeT6 (ai @nodeT7 (ai @nodeTy (@nodeTz)))))))))
theorem nodeD1 {a : Node} : partOf (List.drop 1 (nodeC a)) 0 1 false = .int .i64 a.label := rfl
theorem nodeD2 {a : Node} : partOf (List.drop 2 (nodeC a)) 0 1 false = .int .i64 a.rack := rfl
theorem nodeD3 {a : Node} : partOf (List.drop 3 (nodeC a)) 0 1 false = .int .i64 a.mem := rfl
theorem nodeD4 {a : Node} : partOf (List.drop 4 (nodeC a)) 0 1 false = .int .i64 a.cores := rfl
theorem nodeD5 {a : Node} : partOf (List.drop 5 (nodeC a)) 0 1 false = .int .i64 a.seen := rfl
theorem nodeD6 {a : Node} : partOf (List.drop 6 (nodeC a)) 0 1 false = .int .i64 a.beat := rfl
theorem nodeD7 {a : Node} : partOf (List.drop 7 (nodeC a)) 0 1 false = .bool a.up := rfl
set_option linter.defProp false in
def nodeD := ai @nodeD1 (ai @nodeD2 (ai @nodeD3 (ai @nodeD4 (ai @nodeD5 (ai @nodeD6 (@nodeD7))))))
/-- Where the first is that p says yes to; -1: none. -/
def idxI {α : Type} (p : α → Bool) (l : List α) : Int := if l.any p then (l.findIdx p : Nat) else -1

theorem idx_at {α : Type} {p : α → Bool} {l : List α} {i : Nat} (hi : i < l.length) (hn : ∀ j, (h : j < i) → p (l[j]'(by omega)) = false) (hp : p (l[i]'hi) = true) : idxI p l = (i : Int) := by
  unfold idxI
  have : l.any p = true := List.any_eq_true.2 ⟨_, List.getElem_mem hi, hp⟩
  rw [if_pos this]
  congr 1
  exact (List.findIdx_eq hi).2 ⟨hp, fun j hj => hn j hj⟩
theorem idx_no {α : Type} {p : α → Bool} {l : List α} (hn : ∀ j, (h : j < l.length) → p l[j] = false) : idxI p l = -1 := by
  unfold idxI
  have : l.any p = false := by
    rw [List.any_eq_false]
    intro x hx
    obtain ⟨j, hj, rfl⟩ := List.getElem_of_mem hx
    rw [hn j hj]
    simp
  rw [this]
  rfl

theorem idx_cases {α : Type} (p : α → Bool) (l : List α) : (idxI p l = -1 ∧ ∀ x ∈ l, p x = false) ∨ ∃ i : Nat, ∃ h : i < l.length, idxI p l = (i : Int) ∧ p l[i] = true ∧ ∀ j, (hj : j < i) → p (l[j]'(by omega)) = false := by
  unfold idxI
  cases h : l.any p
  · rw [List.any_eq_false] at h
    exact .inl ⟨rfl, fun x hx => by simpa using h x hx⟩
  · have hi : l.findIdx p < l.length := by
      rw [List.findIdx_lt_length]
      obtain ⟨x, hx, hp⟩ := List.any_eq_true.1 h
      exact ⟨x, hx, hp⟩
    refine .inr ⟨l.findIdx p, hi, rfl, List.findIdx_getElem (w := hi), fun j hj => ?_⟩
    have := List.not_of_lt_findIdx hj
    simpa using this

def win (a n : Int) : Int := if a.tmod n < 0 then a.tmod n + n else a.tmod n
theorem within_ok (a n : Int) (h : 0 < n) (h2 : n < 2 ^ 62) : PCall Try.prog 9 [.int .i64 a, .int .i64 n] (.int .i64 (win a n)) := by
  unfold PCall
  have h3 := Int.lt_tmod_of_pos a h
  have h4 := Int.tmod_lt_of_pos a h
  refine acall_of is9 (by simp) ?_
  unfold cc9 win
  simp -implicitDefEqProofs (maxSteps := 500000) (disch := first | decide | omega) only [↓preS, ↓reduceIte, allS, Nat.reduceBEq, Nat.reduceAdd, Nat.reduceEqDiff, reduceIte, Int.reduceToNat, Int.reduceLE, Int.reduceLT, Nat.reduceLeDiff, Nat.reduceMul, Nat.reducePow, Nat.reduceLT, Int.reduceBEq, Int.reduceBNe, Int.reduceAdd, Int.reduceSub, Int.reduceMul, Int.reduceGT, Int.reduceGE, decS, Int.reduceNe, Int.reduceEq]
  refine ⟨by omega, ?_⟩
  refine cK_split (fun hb => ?_) (fun hb => ?_)
  · simp (disch := omega) only [decide_eq_true_eq, decide_eq_false_iff_not, wrap_i64, beq_iff_eq, bne_iff_ne, beq_eq_false_iff_ne, bne_eq_false_iff_eq, Bool.not_eq_true, Bool.not_eq_false, eq_u32, ne_u32] at hb
    simp -implicitDefEqProofs (maxSteps := 500000) (disch := first | decide | omega) only [↓preS, ↓reduceIte, allS, Nat.reduceBEq, Nat.reduceAdd, Nat.reduceEqDiff, reduceIte, Int.reduceToNat, Int.reduceLE, Int.reduceLT, Nat.reduceLeDiff, Nat.reduceMul, Nat.reducePow, Nat.reduceLT, Int.reduceBEq, Int.reduceBNe, Int.reduceAdd, Int.reduceSub, Int.reduceMul, Int.reduceGT, Int.reduceGE, decS, Int.reduceNe, Int.reduceEq]
    rw [if_pos hb]
  · simp (disch := omega) only [decide_eq_true_eq, decide_eq_false_iff_not, wrap_i64, beq_iff_eq, bne_iff_ne, beq_eq_false_iff_ne, bne_eq_false_iff_eq, Bool.not_eq_true, Bool.not_eq_false, eq_u32, ne_u32] at hb
    simp -implicitDefEqProofs (maxSteps := 500000) (disch := first | decide | omega) only [↓preS, ↓reduceIte, allS, Nat.reduceBEq, Nat.reduceAdd, Nat.reduceEqDiff, reduceIte, Int.reduceToNat, Int.reduceLE, Int.reduceLT, Nat.reduceLeDiff, Nat.reduceMul, Nat.reducePow, Nat.reduceLT, Int.reduceBEq, Int.reduceBNe, Int.reduceAdd, Int.reduceSub, Int.reduceMul, Int.reduceGT, Int.reduceGE, decS, Int.reduceNe, Int.reduceEq]
    rw [if_neg hb]
theorem win_rng (a n : Int) (h : 0 < n) : 0 ≤ win a n ∧ win a n < n := by
  have h3 := Int.lt_tmod_of_pos a h
  have h4 := Int.tmod_lt_of_pos a h
  unfold win
  split <;> omega


def q0 : Queue := ⟨[114, 111, 111, 116], [⟨10000, 10000⟩], 10000⟩
def stC (q N : AV) (now : Int) : List AV := [.sl false 1 [.str []], q, N, .nils, .nils, .nils, .nils, .int .i64 now, .int .i64 0, .int .i64 0]
theorem new_ok : PCall Try.prog 8 [] (.agg (stC (.sl false 3 ([q0].map QUE)) .nils 0)) := by
  unfold PCall
  refine acallR_of isR8 (by simp) ?_
  unfold cc8 stC
  simp -implicitDefEqProofs (maxSteps := 500000) (disch := first | decide | omega) only [↓preS, ↓reduceIte, allS, Nat.reduceBEq, Nat.reduceAdd, Nat.reduceEqDiff, reduceIte, Int.reduceToNat, Int.reduceLE, Int.reduceLT, Nat.reduceLeDiff, Nat.reduceMul, Nat.reducePow, Nat.reduceLT, Int.reduceBEq, Int.reduceBNe, Int.reduceAdd, Int.reduceSub, Int.reduceMul, Int.reduceGT, Int.reduceGE, decS, Int.reduceNe, Int.reduceEq, fillOk, fillAV, List.append_nil]
  rfl
theorem is31_ok (id : Int) (n : Node) : PCall Try.prog 31 [.int .i64 id, NODE n] (.bool (n.id == id)) := by
  refine acall_of is31 (by simp) ?_
  unfold cc31
  simp -implicitDefEqProofs (maxSteps := 500000) (disch := first | decide | omega) only [↓preS, ↓reduceIte, allS, Nat.reduceBEq, Nat.reduceAdd, Nat.reduceEqDiff, reduceIte, Int.reduceToNat, Int.reduceLE, Int.reduceLT, Nat.reduceLeDiff, Nat.reduceMul, Nat.reducePow, Nat.reduceLT, Int.reduceBEq, Int.reduceBNe, Int.reduceAdd, Int.reduceSub, Int.reduceMul, Int.reduceGT, Int.reduceGE, decS, Int.reduceNe, Int.reduceEq, nodeS]
def idP (p : Int) (a : Node) : Bool := a.id == p
def FN31 (id : Int) : AV := .fn (.func 31) [.int .i64 id] []
set_option maxHeartbeats 1000000 in
theorem idx30 (t : Bool) (p : Int) (l : List Node) (hl : l.length < 2 ^ 63) : PCall Try.prog 30 [.sl t 8 (l.map NODE), FN31 p] (.int .i64 (idxI (idP p) l)) := by
  refine acall_of is30 (by simp) ?_
  unfold cc30 FN31
  simp -implicitDefEqProofs (maxSteps := 500000) (disch := first | decide | omega) only [↓preS, ↓reduceIte, allS, Nat.reduceBEq, Nat.reduceAdd, Nat.reduceEqDiff, reduceIte, Int.reduceToNat, Int.reduceLE, Int.reduceLT, Nat.reduceLeDiff, Nat.reduceMul, Nat.reducePow, Nat.reduceLT, Int.reduceBEq, Int.reduceBNe, Int.reduceAdd, Int.reduceSub, Int.reduceMul, Int.reduceGT, Int.reduceGE, decS, Int.reduceNe, Int.reduceEq]
  unfold cc30L0
  simp -implicitDefEqProofs (maxSteps := 500000) (disch := first | decide | omega) only [↓preS, ↓reduceIte, allS, Nat.reduceBEq, Nat.reduceAdd, Nat.reduceEqDiff, reduceIte, Int.reduceToNat, Int.reduceLE, Int.reduceLT, Nat.reduceLeDiff, Nat.reduceMul, Nat.reducePow, Nat.reduceLT, Int.reduceBEq, Int.reduceBNe, Int.reduceAdd, Int.reduceSub, Int.reduceMul, Int.reduceGT, Int.reduceGE, decS, Int.reduceNe, Int.reduceEq]
  refine aw_loopS (σ := Nat) (fun i => ⟨[(0, .sl t 8 (l.map NODE)), (1, .fn (.func 31) [.int .i64 p] []), (7, .int .i64 (l.length : Int)), (8, .int .i64 (i : Int))], []⟩)
    (fun i => i ≤ l.length ∧ ∀ j, (h : j < i) → (h2 : j < l.length) → idP p l[j] = false) (fun i => l.length - i) 0 (.inl rfl) ⟨by omega, fun j h => by omega⟩ ?_
  rintro i ⟨hii, hn⟩
  unfold cc30l0
  by_cases hil : i < l.length
  · have hg : l.getD i default = l[i] := by simp [hil]
    simp -implicitDefEqProofs (maxSteps := 500000) (disch := first | decide | omega) only [↓preS, ↓reduceIte, allS, Nat.reduceBEq, Nat.reduceAdd, Nat.reduceEqDiff, reduceIte, Int.reduceToNat, Int.reduceLE, Int.reduceLT, Nat.reduceLeDiff, Nat.reduceMul, Nat.reducePow, Nat.reduceLT, Int.reduceBEq, Int.reduceBNe, Int.reduceAdd, Int.reduceSub, Int.reduceMul, Int.reduceGT, Int.reduceGE, decS, Int.reduceNe, Int.reduceEq, nodeS]
    refine ⟨by omega, by omega, ?_⟩
    refine acK_of (FCall.of (lent := false) (is31_ok p _) (.refl rfl) rfl (by simp)) ?_
    rw [hg]
    cases hp : idP p l[i]
    · have hp' : (l[i].id == p) = false := hp
      rw [hp']
      simp -implicitDefEqProofs (maxSteps := 500000) (disch := first | decide | omega) only [↓preS, ↓reduceIte, allS, Nat.reduceBEq, Nat.reduceAdd, Nat.reduceEqDiff, reduceIte, Int.reduceToNat, Int.reduceLE, Int.reduceLT, Nat.reduceLeDiff, Nat.reduceMul, Nat.reducePow, Nat.reduceLT, Int.reduceBEq, Int.reduceBNe, Int.reduceAdd, Int.reduceSub, Int.reduceMul, Int.reduceGT, Int.reduceGE, decS, Int.reduceNe, Int.reduceEq]
      refine ⟨i + 1, .inl rfl, ⟨by omega, fun j h h2 => ?_⟩, by omega⟩
      by_cases hj : j = i
      · subst hj; exact hp
      · exact hn j (by omega) h2
    · have hp' : (l[i].id == p) = true := hp
      rw [hp']
      simp -implicitDefEqProofs (maxSteps := 500000) (disch := first | decide | omega) only [↓preS, ↓reduceIte, allS, Nat.reduceBEq, Nat.reduceAdd, Nat.reduceEqDiff, reduceIte, Int.reduceToNat, Int.reduceLE, Int.reduceLT, Nat.reduceLeDiff, Nat.reduceMul, Nat.reducePow, Nat.reduceLT, Int.reduceBEq, Int.reduceBNe, Int.reduceAdd, Int.reduceSub, Int.reduceMul, Int.reduceGT, Int.reduceGE, decS, Int.reduceNe, Int.reduceEq]
      rw [idx_at hil (fun j hj => hn j hj (by omega)) hp]
  · have : i = l.length := by omega
    subst this
    simp -implicitDefEqProofs (maxSteps := 500000) (disch := first | decide | omega) only [↓preS, ↓reduceIte, allS, Nat.reduceBEq, Nat.reduceAdd, Nat.reduceEqDiff, reduceIte, Int.reduceToNat, Int.reduceLE, Int.reduceLT, Nat.reduceLeDiff, Nat.reduceMul, Nat.reducePow, Nat.reduceLT, Int.reduceBEq, Int.reduceBNe, Int.reduceAdd, Int.reduceSub, Int.reduceMul, Int.reduceGT, Int.reduceGE, decS, Int.reduceNe, Int.reduceEq]
    rw [idx_no fun j hj => hn j hj hj]
end Go.Proofs.Ytlgdinihbomlpaa
