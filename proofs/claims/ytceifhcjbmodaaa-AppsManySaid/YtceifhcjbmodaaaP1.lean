/- What functions of the program compute. No condition. -/
import Derived.Test.YtceifhcjbmodaaaR6Code
import Derived.Test.YtceifhcjbmodaaaL4
import Derived.Test.YtceifhcjbmodaaaL3
set_option linter.unusedSimpArgs false
set_option linter.unusedVariables false
namespace Go.Proofs.Ytceifhcjbmodaaa
open Go Go.Ab

structure Node where
  id : Int
  label : Int
  rack : Int
  mem : Int
  cores : Int
  seen : Int
  beat : Int
  up : Bool
  deriving DecidableEq, Inhabited
def nodeC (a : Node) : List AV := [.int .i64 a.id, .int .i64 a.label, .int .i64 a.rack, .int .i64 a.mem, .int .i64 a.cores, .int .i64 a.seen, .int .i64 a.beat, .bool a.up]
def NODE (a : Node) : AV := .agg (nodeC a)
theorem node_cells {a : Node} : (NODE a).cells = nodeC a := rfl
theorem node_len {a : Node} : (nodeC a).length = 8 := rfl
theorem node_one {a : Node} : (nodeC a).all AV.one = true := rfl
theorem node_ok {a : Node} : (nodeC a).all AV.ok = true := rfl
theorem node_el {a : Node} : (NODE a).el 8 = true := rfl
theorem node_all {a : Node} : partOf (nodeC a) 0 8 true = NODE a := rfl
theorem node_drop {a : Node} : (nodeC a).drop 8 = [] := rfl
theorem node_0 {a : Node} : partOf (nodeC a) 0 1 false = .int .i64 a.id := rfl
theorem node_1 {a : Node} : partOf (nodeC a) 1 1 false = .int .i64 a.label := rfl
theorem node_2 {a : Node} : partOf (nodeC a) 2 1 false = .int .i64 a.rack := rfl
theorem node_3 {a : Node} : partOf (nodeC a) 3 1 false = .int .i64 a.mem := rfl
theorem node_4 {a : Node} : partOf (nodeC a) 4 1 false = .int .i64 a.cores := rfl
theorem node_5 {a : Node} : partOf (nodeC a) 5 1 false = .int .i64 a.seen := rfl
theorem node_6 {a : Node} : partOf (nodeC a) 6 1 false = .int .i64 a.beat := rfl
theorem node_7 {a : Node} : partOf (nodeC a) 7 1 false = .bool a.up := rfl
theorem node_g3 {a : Node} : partOf (nodeC a) 3 2 true = .agg [.int .i64 a.mem, .int .i64 a.cores] := rfl
theorem node_s0 {a : Node} {v : Int} : (nodeC a).take 0 ++ .int .i64 v :: (nodeC a).drop 1 = nodeC { a with id := v } := rfl
theorem node_s1 {a : Node} {v : Int} : (nodeC a).take 1 ++ .int .i64 v :: (nodeC a).drop 2 = nodeC { a with label := v } := rfl
theorem node_s2 {a : Node} {v : Int} : (nodeC a).take 2 ++ .int .i64 v :: (nodeC a).drop 3 = nodeC { a with rack := v } := rfl
theorem node_s3 {a : Node} {v : Int} : (nodeC a).take 3 ++ .int .i64 v :: (nodeC a).drop 4 = nodeC { a with mem := v } := rfl
theorem node_s4 {a : Node} {v : Int} : (nodeC a).take 4 ++ .int .i64 v :: (nodeC a).drop 5 = nodeC { a with cores := v } := rfl
theorem node_s5 {a : Node} {v : Int} : (nodeC a).take 5 ++ .int .i64 v :: (nodeC a).drop 6 = nodeC { a with seen := v } := rfl
theorem node_s6 {a : Node} {v : Int} : (nodeC a).take 6 ++ .int .i64 v :: (nodeC a).drop 7 = nodeC { a with beat := v } := rfl
theorem node_s7 {a : Node} {v : Bool} : (nodeC a).take 7 ++ .bool v :: (nodeC a).drop 8 = nodeC { a with up := v } := rfl
theorem node_nxt {P : Program} {d : Bool} {t : Nat} {l : List COper} {r : Regs} {L : St → Prop} {Lp : AV → St → Prop} {a : Node} {H : List AO} : nxt P d t l r L Lp (NODE a) H = opsK P d l ⟨(t, NODE a) :: r, H⟩ L Lp := rfl
theorem node_ro {a : Node} {ρ : Nat → Option Nat} : AV.roL ρ (nodeC a) = nodeC a := rfl
theorem node_bo {a : Node} {ρ : Nat → Option Nat} {n : Nat} : AV.boL ρ n (nodeC a) = true := rfl
attribute [simp] node_ro node_bo
theorem node_ids {a : Node} : AV.ids (NODE a) = [] := rfl
theorem node_ids2 {a : Node} : AV.ids2 (NODE a) = [] := rfl
theorem node_get {l : List Node} {i : Nat} (h : i < l.length) : (l.map NODE).getD i .top = NODE l[i] := by simp [List.getD_eq_getElem?_getD, h]
theorem node_upd {l : List Node} {i : Nat} {x : Node} : (l.map NODE).set i (elemUpd ((l.map NODE).getD i .top) 0 8 (nodeC x)) = (l.set i x).map NODE := by
  by_cases h : i < l.length
  · rw [node_get h, List.map_set]; rfl
  · rw [List.set_eq_of_length_le (by simp; omega), List.set_eq_of_length_le (by omega)]
theorem node_u0 {l : List Node} {i : Nat} {v : Int} : (l.map NODE).set i (elemUpd ((l.map NODE).getD i .top) 0 1 [.int .i64 v]) = (l.set i { l.getD i default with id := v }).map NODE := by
  by_cases h : i < l.length
  · rw [node_get h, List.map_set, List.getD_eq_getElem?_getD, List.getElem?_eq_getElem h]; rfl
  · rw [List.set_eq_of_length_le (by simp; omega), List.set_eq_of_length_le (by omega)]
theorem node_u1 {l : List Node} {i : Nat} {v : Int} : (l.map NODE).set i (elemUpd ((l.map NODE).getD i .top) 1 1 [.int .i64 v]) = (l.set i { l.getD i default with label := v }).map NODE := by
  by_cases h : i < l.length
  · rw [node_get h, List.map_set, List.getD_eq_getElem?_getD, List.getElem?_eq_getElem h]; rfl
  · rw [List.set_eq_of_length_le (by simp; omega), List.set_eq_of_length_le (by omega)]
theorem node_u2 {l : List Node} {i : Nat} {v : Int} : (l.map NODE).set i (elemUpd ((l.map NODE).getD i .top) 2 1 [.int .i64 v]) = (l.set i { l.getD i default with rack := v }).map NODE := by
  by_cases h : i < l.length
  · rw [node_get h, List.map_set, List.getD_eq_getElem?_getD, List.getElem?_eq_getElem h]; rfl
  · rw [List.set_eq_of_length_le (by simp; omega), List.set_eq_of_length_le (by omega)]
theorem node_u3 {l : List Node} {i : Nat} {v : Int} : (l.map NODE).set i (elemUpd ((l.map NODE).getD i .top) 3 1 [.int .i64 v]) = (l.set i { l.getD i default with mem := v }).map NODE := by
  by_cases h : i < l.length
  · rw [node_get h, List.map_set, List.getD_eq_getElem?_getD, List.getElem?_eq_getElem h]; rfl
  · rw [List.set_eq_of_length_le (by simp; omega), List.set_eq_of_length_le (by omega)]
theorem node_u4 {l : List Node} {i : Nat} {v : Int} : (l.map NODE).set i (elemUpd ((l.map NODE).getD i .top) 4 1 [.int .i64 v]) = (l.set i { l.getD i default with cores := v }).map NODE := by
  by_cases h : i < l.length
  · rw [node_get h, List.map_set, List.getD_eq_getElem?_getD, List.getElem?_eq_getElem h]; rfl
  · rw [List.set_eq_of_length_le (by simp; omega), List.set_eq_of_length_le (by omega)]
theorem node_u5 {l : List Node} {i : Nat} {v : Int} : (l.map NODE).set i (elemUpd ((l.map NODE).getD i .top) 5 1 [.int .i64 v]) = (l.set i { l.getD i default with seen := v }).map NODE := by
  by_cases h : i < l.length
  · rw [node_get h, List.map_set, List.getD_eq_getElem?_getD, List.getElem?_eq_getElem h]; rfl
  · rw [List.set_eq_of_length_le (by simp; omega), List.set_eq_of_length_le (by omega)]
theorem node_u6 {l : List Node} {i : Nat} {v : Int} : (l.map NODE).set i (elemUpd ((l.map NODE).getD i .top) 6 1 [.int .i64 v]) = (l.set i { l.getD i default with beat := v }).map NODE := by
  by_cases h : i < l.length
  · rw [node_get h, List.map_set, List.getD_eq_getElem?_getD, List.getElem?_eq_getElem h]; rfl
  · rw [List.set_eq_of_length_le (by simp; omega), List.set_eq_of_length_le (by omega)]
theorem node_u7 {l : List Node} {i : Nat} {v : Bool} : (l.map NODE).set i (elemUpd ((l.map NODE).getD i .top) 7 1 [.bool v]) = (l.set i { l.getD i default with up := v }).map NODE := by
  by_cases h : i < l.length
  · rw [node_get h, List.map_set, List.getD_eq_getElem?_getD, List.getElem?_eq_getElem h]; rfl
  · rw [List.set_eq_of_length_le (by simp; omega), List.set_eq_of_length_le (by omega)]
set_option linter.defProp false in
def nodeS := ai @node_cells (ai @node_len (ai @node_one (ai @node_ok (ai @node_el (ai @node_all (ai @node_drop (ai @node_0 (ai @node_1 (ai @node_2 (ai @node_3 (ai @node_4 (ai @node_5 (ai @node_6 (ai @node_7 (ai @node_g3 (ai @node_s0 (ai @node_s1 (ai @node_s2 (ai @node_s3 (ai @node_s4 (ai @node_s5 (ai @node_s6 (ai @node_s7 (ai @node_nxt (ai @node_ro (ai @node_bo (ai @node_ids (ai @node_ids2 (ai @node_upd (ai @node_u0 (ai @node_u1 (ai @node_u2 (ai @node_u3 (ai @node_u4 (ai @node_u5 (ai @node_u6 (@node_u7)))))))))))))))))))))))))))))))))))))
theorem node_t0a {a : Node} {v : Int} : .int .i64 v :: List.drop 1 (nodeC a) = nodeC { a with id := v } := rfl
theorem node_t1a {a : Node} {v : Int} : List.take 1 (nodeC a) ++ [.int .i64 v] ++ List.drop 2 (nodeC a) = nodeC { a with label := v } := rfl
theorem node_d1 {a : Node} : partOf (List.drop 1 (nodeC a)) 0 1 false = .int .i64 a.label := rfl
theorem node_t2a {a : Node} {v : Int} : List.take 2 (nodeC a) ++ [.int .i64 v] ++ List.drop 3 (nodeC a) = nodeC { a with rack := v } := rfl
theorem node_d2 {a : Node} : partOf (List.drop 2 (nodeC a)) 0 1 false = .int .i64 a.rack := rfl
theorem node_t3a {a : Node} {v : Int} : List.take 3 (nodeC a) ++ [.int .i64 v] ++ List.drop 4 (nodeC a) = nodeC { a with mem := v } := rfl
theorem node_d3 {a : Node} : partOf (List.drop 3 (nodeC a)) 0 1 false = .int .i64 a.mem := rfl
theorem node_t4a {a : Node} {v : Int} : List.take 4 (nodeC a) ++ [.int .i64 v] ++ List.drop 5 (nodeC a) = nodeC { a with cores := v } := rfl
theorem node_d4 {a : Node} : partOf (List.drop 4 (nodeC a)) 0 1 false = .int .i64 a.cores := rfl
theorem node_t5a {a : Node} {v : Int} : List.take 5 (nodeC a) ++ [.int .i64 v] ++ List.drop 6 (nodeC a) = nodeC { a with seen := v } := rfl
theorem node_d5 {a : Node} : partOf (List.drop 5 (nodeC a)) 0 1 false = .int .i64 a.seen := rfl
theorem node_t6a {a : Node} {v : Int} : List.take 6 (nodeC a) ++ [.int .i64 v] ++ List.drop 7 (nodeC a) = nodeC { a with beat := v } := rfl
theorem node_d6 {a : Node} : partOf (List.drop 6 (nodeC a)) 0 1 false = .int .i64 a.beat := rfl
theorem node_t7a {a : Node} {v : Bool} : List.take 7 (nodeC a) ++ [.bool v] ++ [] = nodeC { a with up := v } := rfl
theorem node_t7b {a : Node} {v : Bool} : List.take 7 (nodeC a) ++ [.bool v] = nodeC { a with up := v } := rfl
theorem node_d7 {a : Node} : partOf (List.drop 7 (nodeC a)) 0 1 false = .bool a.up := rfl
theorem node_e3 {a : Node} : partOf (List.drop 3 (nodeC a)) 0 1 false = .int .i64 a.mem := rfl
theorem node_e4 {a : Node} : partOf (List.drop 3 (nodeC a)) 1 1 false = .int .i64 a.cores := rfl
set_option linter.defProp false in
def nodeT := ai @node_t0a (ai @node_t1a (ai @node_t2a (ai @node_t3a (ai @node_t4a (ai @node_t5a (ai @node_t6a (ai @node_t7a (@node_t7b))))))))
set_option linter.defProp false in
def nodeD := ai @node_d1 (ai @node_d2 (ai @node_d3 (ai @node_d4 (ai @node_d5 (ai @node_d6 (ai @node_d7 (ai @node_e3 (@node_e4))))))))

structure Cap where
  least : Int
  most : Int
  deriving DecidableEq, Inhabited
def capC (a : Cap) : List AV := [.int .i64 a.least, .int .i64 a.most]
def CAP (a : Cap) : AV := .agg (capC a)
theorem cap_cells {a : Cap} : (CAP a).cells = capC a := rfl
theorem cap_len {a : Cap} : (capC a).length = 2 := rfl
theorem cap_one {a : Cap} : (capC a).all AV.one = true := rfl
theorem cap_ok {a : Cap} : (capC a).all AV.ok = true := rfl
theorem cap_el {a : Cap} : (CAP a).el 2 = true := rfl
theorem cap_all {a : Cap} : partOf (capC a) 0 2 true = CAP a := rfl
theorem cap_drop {a : Cap} : (capC a).drop 2 = [] := rfl
theorem cap_0 {a : Cap} : partOf (capC a) 0 1 false = .int .i64 a.least := rfl
theorem cap_1 {a : Cap} : partOf (capC a) 1 1 false = .int .i64 a.most := rfl
theorem cap_s0 {a : Cap} {v : Int} : (capC a).take 0 ++ .int .i64 v :: (capC a).drop 1 = capC { a with least := v } := rfl
theorem cap_s1 {a : Cap} {v : Int} : (capC a).take 1 ++ .int .i64 v :: (capC a).drop 2 = capC { a with most := v } := rfl
theorem cap_nxt {P : Program} {d : Bool} {t : Nat} {l : List COper} {r : Regs} {L : St → Prop} {Lp : AV → St → Prop} {a : Cap} {H : List AO} : nxt P d t l r L Lp (CAP a) H = opsK P d l ⟨(t, CAP a) :: r, H⟩ L Lp := rfl
theorem cap_ro {a : Cap} {ρ : Nat → Option Nat} : AV.roL ρ (capC a) = capC a := rfl
theorem cap_bo {a : Cap} {ρ : Nat → Option Nat} {n : Nat} : AV.boL ρ n (capC a) = true := rfl
attribute [simp] cap_ro cap_bo
theorem cap_ids {a : Cap} : AV.ids (CAP a) = [] := rfl
theorem cap_ids2 {a : Cap} : AV.ids2 (CAP a) = [] := rfl
theorem cap_get {l : List Cap} {i : Nat} (h : i < l.length) : (l.map CAP).getD i .top = CAP l[i] := by simp [List.getD_eq_getElem?_getD, h]
theorem cap_upd {l : List Cap} {i : Nat} {x : Cap} : (l.map CAP).set i (elemUpd ((l.map CAP).getD i .top) 0 2 (capC x)) = (l.set i x).map CAP := by
  by_cases h : i < l.length
  · rw [cap_get h, List.map_set]; rfl
  · rw [List.set_eq_of_length_le (by simp; omega), List.set_eq_of_length_le (by omega)]
theorem cap_u0 {l : List Cap} {i : Nat} {v : Int} : (l.map CAP).set i (elemUpd ((l.map CAP).getD i .top) 0 1 [.int .i64 v]) = (l.set i { l.getD i default with least := v }).map CAP := by
  by_cases h : i < l.length
  · rw [cap_get h, List.map_set, List.getD_eq_getElem?_getD, List.getElem?_eq_getElem h]; rfl
  · rw [List.set_eq_of_length_le (by simp; omega), List.set_eq_of_length_le (by omega)]
theorem cap_u1 {l : List Cap} {i : Nat} {v : Int} : (l.map CAP).set i (elemUpd ((l.map CAP).getD i .top) 1 1 [.int .i64 v]) = (l.set i { l.getD i default with most := v }).map CAP := by
  by_cases h : i < l.length
  · rw [cap_get h, List.map_set, List.getD_eq_getElem?_getD, List.getElem?_eq_getElem h]; rfl
  · rw [List.set_eq_of_length_le (by simp; omega), List.set_eq_of_length_le (by omega)]
set_option linter.defProp false in
def capS := ai @cap_cells (ai @cap_len (ai @cap_one (ai @cap_ok (ai @cap_el (ai @cap_all (ai @cap_drop (ai @cap_0 (ai @cap_1 (ai @cap_s0 (ai @cap_s1 (ai @cap_nxt (ai @cap_ro (ai @cap_bo (ai @cap_ids (ai @cap_ids2 (ai @cap_upd (ai @cap_u0 (@cap_u1))))))))))))))))))
theorem cap_t0a {a : Cap} {v : Int} : .int .i64 v :: List.drop 1 (capC a) = capC { a with least := v } := rfl
theorem cap_t1a {a : Cap} {v : Int} : List.take 1 (capC a) ++ [.int .i64 v] ++ [] = capC { a with most := v } := rfl
theorem cap_t1b {a : Cap} {v : Int} : List.take 1 (capC a) ++ [.int .i64 v] = capC { a with most := v } := rfl
theorem cap_d1 {a : Cap} : partOf (List.drop 1 (capC a)) 0 1 false = .int .i64 a.most := rfl
set_option linter.defProp false in
def capT := ai @cap_t0a (ai @cap_t1a (@cap_t1b))
set_option linter.defProp false in
def capD := @cap_d1

structure Queue where
  path : List UInt8
  caps : List Cap
  user : Int
  deriving DecidableEq, Inhabited
def queC (a : Queue) : List AV := [.str a.path, .sl false 2 (a.caps.map CAP), .int .i64 a.user]
def QUE (a : Queue) : AV := .agg (queC a)
theorem que_cells {a : Queue} : (QUE a).cells = queC a := rfl
theorem que_len {a : Queue} : (queC a).length = 3 := rfl
theorem que_one {a : Queue} : (queC a).all AV.one = true := rfl
theorem que_ok {a : Queue} : (queC a).all AV.ok = true := rfl
theorem que_el {a : Queue} : (QUE a).el 3 = true := rfl
theorem que_all {a : Queue} : partOf (queC a) 0 3 true = QUE a := rfl
theorem que_drop {a : Queue} : (queC a).drop 3 = [] := rfl
theorem que_0 {a : Queue} : partOf (queC a) 0 1 false = .str a.path := rfl
theorem que_1 {a : Queue} : partOf (queC a) 1 1 false = .sl false 2 (a.caps.map CAP) := rfl
theorem que_2 {a : Queue} : partOf (queC a) 2 1 false = .int .i64 a.user := rfl
theorem que_s0 {a : Queue} {v : List UInt8} : (queC a).take 0 ++ .str v :: (queC a).drop 1 = queC { a with path := v } := rfl
theorem que_s1 {a : Queue} {v : List Cap} : (queC a).take 1 ++ .sl false 2 (v.map CAP) :: (queC a).drop 2 = queC { a with caps := v } := rfl
theorem que_s2 {a : Queue} {v : Int} : (queC a).take 2 ++ .int .i64 v :: (queC a).drop 3 = queC { a with user := v } := rfl
theorem que_nxt {P : Program} {d : Bool} {t : Nat} {l : List COper} {r : Regs} {L : St → Prop} {Lp : AV → St → Prop} {a : Queue} {H : List AO} : nxt P d t l r L Lp (QUE a) H = opsK P d l ⟨(t, QUE a) :: r, H⟩ L Lp := rfl
theorem que_ro {a : Queue} {ρ : Nat → Option Nat} : AV.roL ρ (queC a) = queC a := rfl
theorem que_bo {a : Queue} {ρ : Nat → Option Nat} {n : Nat} : AV.boL ρ n (queC a) = true := rfl
attribute [simp] que_ro que_bo
theorem que_ids {a : Queue} : AV.ids (QUE a) = [] := rfl
theorem que_ids2 {a : Queue} : AV.ids2 (QUE a) = [] := rfl
theorem que_get {l : List Queue} {i : Nat} (h : i < l.length) : (l.map QUE).getD i .top = QUE l[i] := by simp [List.getD_eq_getElem?_getD, h]
theorem que_upd {l : List Queue} {i : Nat} {x : Queue} : (l.map QUE).set i (elemUpd ((l.map QUE).getD i .top) 0 3 (queC x)) = (l.set i x).map QUE := by
  by_cases h : i < l.length
  · rw [que_get h, List.map_set]; rfl
  · rw [List.set_eq_of_length_le (by simp; omega), List.set_eq_of_length_le (by omega)]
theorem que_u0 {l : List Queue} {i : Nat} {v : List UInt8} : (l.map QUE).set i (elemUpd ((l.map QUE).getD i .top) 0 1 [.str v]) = (l.set i { l.getD i default with path := v }).map QUE := by
  by_cases h : i < l.length
  · rw [que_get h, List.map_set, List.getD_eq_getElem?_getD, List.getElem?_eq_getElem h]; rfl
  · rw [List.set_eq_of_length_le (by simp; omega), List.set_eq_of_length_le (by omega)]
theorem que_u1 {l : List Queue} {i : Nat} {v : List Cap} : (l.map QUE).set i (elemUpd ((l.map QUE).getD i .top) 1 1 [.sl false 2 (v.map CAP)]) = (l.set i { l.getD i default with caps := v }).map QUE := by
  by_cases h : i < l.length
  · rw [que_get h, List.map_set, List.getD_eq_getElem?_getD, List.getElem?_eq_getElem h]; rfl
  · rw [List.set_eq_of_length_le (by simp; omega), List.set_eq_of_length_le (by omega)]
theorem que_u2 {l : List Queue} {i : Nat} {v : Int} : (l.map QUE).set i (elemUpd ((l.map QUE).getD i .top) 2 1 [.int .i64 v]) = (l.set i { l.getD i default with user := v }).map QUE := by
  by_cases h : i < l.length
  · rw [que_get h, List.map_set, List.getD_eq_getElem?_getD, List.getElem?_eq_getElem h]; rfl
  · rw [List.set_eq_of_length_le (by simp; omega), List.set_eq_of_length_le (by omega)]
set_option linter.defProp false in
def queS := ai @que_cells (ai @que_len (ai @que_one (ai @que_ok (ai @que_el (ai @que_all (ai @que_drop (ai @que_0 (ai @que_1 (ai @que_2 (ai @que_s0 (ai @que_s1 (ai @que_s2 (ai @que_nxt (ai @que_ro (ai @que_bo (ai @que_ids (ai @que_ids2 (ai @que_upd (ai @que_u0 (ai @que_u1 (@que_u2)))))))))))))))))))))
theorem que_t0a {a : Queue} {v : List UInt8} : .str v :: List.drop 1 (queC a) = queC { a with path := v } := rfl
theorem que_t1a {a : Queue} {v : List Cap} : List.take 1 (queC a) ++ [.sl false 2 (v.map CAP)] ++ List.drop 2 (queC a) = queC { a with caps := v } := rfl
theorem que_d1 {a : Queue} : partOf (List.drop 1 (queC a)) 0 1 false = .sl false 2 (a.caps.map CAP) := rfl
theorem que_t2a {a : Queue} {v : Int} : List.take 2 (queC a) ++ [.int .i64 v] ++ [] = queC { a with user := v } := rfl
theorem que_t2b {a : Queue} {v : Int} : List.take 2 (queC a) ++ [.int .i64 v] = queC { a with user := v } := rfl
theorem que_d2 {a : Queue} : partOf (List.drop 2 (queC a)) 0 1 false = .int .i64 a.user := rfl
set_option linter.defProp false in
def queT := ai @que_t0a (ai @que_t1a (ai @que_t2a (@que_t2b)))
set_option linter.defProp false in
def queD := ai @que_d1 (@que_d2)

structure Ask where
  prio : Int
  label : Int
  mem : Int
  cores : Int
  count : Int
  node : Int
  rack : Int
  missed : Int
  deriving DecidableEq, Inhabited
def askC (a : Ask) : List AV := [.int .i64 a.prio, .int .i64 a.label, .int .i64 a.mem, .int .i64 a.cores, .int .i64 a.count, .int .i64 a.node, .int .i64 a.rack, .int .i64 a.missed]
def ASK (a : Ask) : AV := .agg (askC a)
theorem ask_cells {a : Ask} : (ASK a).cells = askC a := rfl
theorem ask_len {a : Ask} : (askC a).length = 8 := rfl
theorem ask_one {a : Ask} : (askC a).all AV.one = true := rfl
theorem ask_ok {a : Ask} : (askC a).all AV.ok = true := rfl
theorem ask_el {a : Ask} : (ASK a).el 8 = true := rfl
theorem ask_all {a : Ask} : partOf (askC a) 0 8 true = ASK a := rfl
theorem ask_drop {a : Ask} : (askC a).drop 8 = [] := rfl
theorem ask_0 {a : Ask} : partOf (askC a) 0 1 false = .int .i64 a.prio := rfl
theorem ask_1 {a : Ask} : partOf (askC a) 1 1 false = .int .i64 a.label := rfl
theorem ask_2 {a : Ask} : partOf (askC a) 2 1 false = .int .i64 a.mem := rfl
theorem ask_3 {a : Ask} : partOf (askC a) 3 1 false = .int .i64 a.cores := rfl
theorem ask_4 {a : Ask} : partOf (askC a) 4 1 false = .int .i64 a.count := rfl
theorem ask_5 {a : Ask} : partOf (askC a) 5 1 false = .int .i64 a.node := rfl
theorem ask_6 {a : Ask} : partOf (askC a) 6 1 false = .int .i64 a.rack := rfl
theorem ask_7 {a : Ask} : partOf (askC a) 7 1 false = .int .i64 a.missed := rfl
theorem ask_g2 {a : Ask} : partOf (askC a) 2 2 true = .agg [.int .i64 a.mem, .int .i64 a.cores] := rfl
theorem ask_s0 {a : Ask} {v : Int} : (askC a).take 0 ++ .int .i64 v :: (askC a).drop 1 = askC { a with prio := v } := rfl
theorem ask_s1 {a : Ask} {v : Int} : (askC a).take 1 ++ .int .i64 v :: (askC a).drop 2 = askC { a with label := v } := rfl
theorem ask_s2 {a : Ask} {v : Int} : (askC a).take 2 ++ .int .i64 v :: (askC a).drop 3 = askC { a with mem := v } := rfl
theorem ask_s3 {a : Ask} {v : Int} : (askC a).take 3 ++ .int .i64 v :: (askC a).drop 4 = askC { a with cores := v } := rfl
theorem ask_s4 {a : Ask} {v : Int} : (askC a).take 4 ++ .int .i64 v :: (askC a).drop 5 = askC { a with count := v } := rfl
theorem ask_s5 {a : Ask} {v : Int} : (askC a).take 5 ++ .int .i64 v :: (askC a).drop 6 = askC { a with node := v } := rfl
theorem ask_s6 {a : Ask} {v : Int} : (askC a).take 6 ++ .int .i64 v :: (askC a).drop 7 = askC { a with rack := v } := rfl
theorem ask_s7 {a : Ask} {v : Int} : (askC a).take 7 ++ .int .i64 v :: (askC a).drop 8 = askC { a with missed := v } := rfl
theorem ask_nxt {P : Program} {d : Bool} {t : Nat} {l : List COper} {r : Regs} {L : St → Prop} {Lp : AV → St → Prop} {a : Ask} {H : List AO} : nxt P d t l r L Lp (ASK a) H = opsK P d l ⟨(t, ASK a) :: r, H⟩ L Lp := rfl
theorem ask_ro {a : Ask} {ρ : Nat → Option Nat} : AV.roL ρ (askC a) = askC a := rfl
theorem ask_bo {a : Ask} {ρ : Nat → Option Nat} {n : Nat} : AV.boL ρ n (askC a) = true := rfl
attribute [simp] ask_ro ask_bo
theorem ask_ids {a : Ask} : AV.ids (ASK a) = [] := rfl
theorem ask_ids2 {a : Ask} : AV.ids2 (ASK a) = [] := rfl
theorem ask_get {l : List Ask} {i : Nat} (h : i < l.length) : (l.map ASK).getD i .top = ASK l[i] := by simp [List.getD_eq_getElem?_getD, h]
theorem ask_upd {l : List Ask} {i : Nat} {x : Ask} : (l.map ASK).set i (elemUpd ((l.map ASK).getD i .top) 0 8 (askC x)) = (l.set i x).map ASK := by
  by_cases h : i < l.length
  · rw [ask_get h, List.map_set]; rfl
  · rw [List.set_eq_of_length_le (by simp; omega), List.set_eq_of_length_le (by omega)]
theorem ask_u0 {l : List Ask} {i : Nat} {v : Int} : (l.map ASK).set i (elemUpd ((l.map ASK).getD i .top) 0 1 [.int .i64 v]) = (l.set i { l.getD i default with prio := v }).map ASK := by
  by_cases h : i < l.length
  · rw [ask_get h, List.map_set, List.getD_eq_getElem?_getD, List.getElem?_eq_getElem h]; rfl
  · rw [List.set_eq_of_length_le (by simp; omega), List.set_eq_of_length_le (by omega)]
theorem ask_u1 {l : List Ask} {i : Nat} {v : Int} : (l.map ASK).set i (elemUpd ((l.map ASK).getD i .top) 1 1 [.int .i64 v]) = (l.set i { l.getD i default with label := v }).map ASK := by
  by_cases h : i < l.length
  · rw [ask_get h, List.map_set, List.getD_eq_getElem?_getD, List.getElem?_eq_getElem h]; rfl
  · rw [List.set_eq_of_length_le (by simp; omega), List.set_eq_of_length_le (by omega)]
theorem ask_u2 {l : List Ask} {i : Nat} {v : Int} : (l.map ASK).set i (elemUpd ((l.map ASK).getD i .top) 2 1 [.int .i64 v]) = (l.set i { l.getD i default with mem := v }).map ASK := by
  by_cases h : i < l.length
  · rw [ask_get h, List.map_set, List.getD_eq_getElem?_getD, List.getElem?_eq_getElem h]; rfl
  · rw [List.set_eq_of_length_le (by simp; omega), List.set_eq_of_length_le (by omega)]
theorem ask_u3 {l : List Ask} {i : Nat} {v : Int} : (l.map ASK).set i (elemUpd ((l.map ASK).getD i .top) 3 1 [.int .i64 v]) = (l.set i { l.getD i default with cores := v }).map ASK := by
  by_cases h : i < l.length
  · rw [ask_get h, List.map_set, List.getD_eq_getElem?_getD, List.getElem?_eq_getElem h]; rfl
  · rw [List.set_eq_of_length_le (by simp; omega), List.set_eq_of_length_le (by omega)]
theorem ask_u4 {l : List Ask} {i : Nat} {v : Int} : (l.map ASK).set i (elemUpd ((l.map ASK).getD i .top) 4 1 [.int .i64 v]) = (l.set i { l.getD i default with count := v }).map ASK := by
  by_cases h : i < l.length
  · rw [ask_get h, List.map_set, List.getD_eq_getElem?_getD, List.getElem?_eq_getElem h]; rfl
  · rw [List.set_eq_of_length_le (by simp; omega), List.set_eq_of_length_le (by omega)]
theorem ask_u5 {l : List Ask} {i : Nat} {v : Int} : (l.map ASK).set i (elemUpd ((l.map ASK).getD i .top) 5 1 [.int .i64 v]) = (l.set i { l.getD i default with node := v }).map ASK := by
  by_cases h : i < l.length
  · rw [ask_get h, List.map_set, List.getD_eq_getElem?_getD, List.getElem?_eq_getElem h]; rfl
  · rw [List.set_eq_of_length_le (by simp; omega), List.set_eq_of_length_le (by omega)]
theorem ask_u6 {l : List Ask} {i : Nat} {v : Int} : (l.map ASK).set i (elemUpd ((l.map ASK).getD i .top) 6 1 [.int .i64 v]) = (l.set i { l.getD i default with rack := v }).map ASK := by
  by_cases h : i < l.length
  · rw [ask_get h, List.map_set, List.getD_eq_getElem?_getD, List.getElem?_eq_getElem h]; rfl
  · rw [List.set_eq_of_length_le (by simp; omega), List.set_eq_of_length_le (by omega)]
theorem ask_u7 {l : List Ask} {i : Nat} {v : Int} : (l.map ASK).set i (elemUpd ((l.map ASK).getD i .top) 7 1 [.int .i64 v]) = (l.set i { l.getD i default with missed := v }).map ASK := by
  by_cases h : i < l.length
  · rw [ask_get h, List.map_set, List.getD_eq_getElem?_getD, List.getElem?_eq_getElem h]; rfl
  · rw [List.set_eq_of_length_le (by simp; omega), List.set_eq_of_length_le (by omega)]
set_option linter.defProp false in
def askS := ai @ask_cells (ai @ask_len (ai @ask_one (ai @ask_ok (ai @ask_el (ai @ask_all (ai @ask_drop (ai @ask_0 (ai @ask_1 (ai @ask_2 (ai @ask_3 (ai @ask_4 (ai @ask_5 (ai @ask_6 (ai @ask_7 (ai @ask_g2 (ai @ask_s0 (ai @ask_s1 (ai @ask_s2 (ai @ask_s3 (ai @ask_s4 (ai @ask_s5 (ai @ask_s6 (ai @ask_s7 (ai @ask_nxt (ai @ask_ro (ai @ask_bo (ai @ask_ids (ai @ask_ids2 (ai @ask_upd (ai @ask_u0 (ai @ask_u1 (ai @ask_u2 (ai @ask_u3 (ai @ask_u4 (ai @ask_u5 (ai @ask_u6 (@ask_u7)))))))))))))))))))))))))))))))))))))
theorem ask_t0a {a : Ask} {v : Int} : .int .i64 v :: List.drop 1 (askC a) = askC { a with prio := v } := rfl
theorem ask_t1a {a : Ask} {v : Int} : List.take 1 (askC a) ++ [.int .i64 v] ++ List.drop 2 (askC a) = askC { a with label := v } := rfl
theorem ask_d1 {a : Ask} : partOf (List.drop 1 (askC a)) 0 1 false = .int .i64 a.label := rfl
theorem ask_t2a {a : Ask} {v : Int} : List.take 2 (askC a) ++ [.int .i64 v] ++ List.drop 3 (askC a) = askC { a with mem := v } := rfl
theorem ask_d2 {a : Ask} : partOf (List.drop 2 (askC a)) 0 1 false = .int .i64 a.mem := rfl
theorem ask_t3a {a : Ask} {v : Int} : List.take 3 (askC a) ++ [.int .i64 v] ++ List.drop 4 (askC a) = askC { a with cores := v } := rfl
theorem ask_d3 {a : Ask} : partOf (List.drop 3 (askC a)) 0 1 false = .int .i64 a.cores := rfl
theorem ask_t4a {a : Ask} {v : Int} : List.take 4 (askC a) ++ [.int .i64 v] ++ List.drop 5 (askC a) = askC { a with count := v } := rfl
theorem ask_d4 {a : Ask} : partOf (List.drop 4 (askC a)) 0 1 false = .int .i64 a.count := rfl
theorem ask_t5a {a : Ask} {v : Int} : List.take 5 (askC a) ++ [.int .i64 v] ++ List.drop 6 (askC a) = askC { a with node := v } := rfl
theorem ask_d5 {a : Ask} : partOf (List.drop 5 (askC a)) 0 1 false = .int .i64 a.node := rfl
theorem ask_t6a {a : Ask} {v : Int} : List.take 6 (askC a) ++ [.int .i64 v] ++ List.drop 7 (askC a) = askC { a with rack := v } := rfl
theorem ask_d6 {a : Ask} : partOf (List.drop 6 (askC a)) 0 1 false = .int .i64 a.rack := rfl
theorem ask_t7a {a : Ask} {v : Int} : List.take 7 (askC a) ++ [.int .i64 v] ++ [] = askC { a with missed := v } := rfl
theorem ask_t7b {a : Ask} {v : Int} : List.take 7 (askC a) ++ [.int .i64 v] = askC { a with missed := v } := rfl
theorem ask_d7 {a : Ask} : partOf (List.drop 7 (askC a)) 0 1 false = .int .i64 a.missed := rfl
theorem ask_e2 {a : Ask} : partOf (List.drop 2 (askC a)) 0 1 false = .int .i64 a.mem := rfl
theorem ask_e3 {a : Ask} : partOf (List.drop 2 (askC a)) 1 1 false = .int .i64 a.cores := rfl
set_option linter.defProp false in
def askT := ai @ask_t0a (ai @ask_t1a (ai @ask_t2a (ai @ask_t3a (ai @ask_t4a (ai @ask_t5a (ai @ask_t6a (ai @ask_t7a (@ask_t7b))))))))
set_option linter.defProp false in
def askD := ai @ask_d1 (ai @ask_d2 (ai @ask_d3 (ai @ask_d4 (ai @ask_d5 (ai @ask_d6 (ai @ask_d7 (ai @ask_e2 (@ask_e3))))))))

structure App where
  id : Int
  state : Int
  queue : List UInt8
  user : Int
  prio : Int
  mem : Int
  cores : Int
  asks : List Ask
  seen : Int
  beat : Int
  grants : List Int
  kills : List Int
  told : List Int
  lost : List Int
  deriving DecidableEq, Inhabited
def appC (a : App) : List AV := [.int .i64 a.id, .int .i64 a.state, .str a.queue, .int .i64 a.user, .int .i64 a.prio, .int .i64 a.mem, .int .i64 a.cores, .sl false 8 (a.asks.map ASK), .int .i64 a.seen, .int .i64 a.beat, .sl false 1 (a.grants.map I64), .sl false 1 (a.kills.map I64), .sl false 1 (a.told.map I64), .sl false 1 (a.lost.map I64)]
def APP (a : App) : AV := .agg (appC a)
theorem app_cells {a : App} : (APP a).cells = appC a := rfl
theorem app_len {a : App} : (appC a).length = 14 := rfl
theorem app_one {a : App} : (appC a).all AV.one = true := rfl
theorem app_ok {a : App} : (appC a).all AV.ok = true := rfl
theorem app_el {a : App} : (APP a).el 14 = true := rfl
theorem app_all {a : App} : partOf (appC a) 0 14 true = APP a := rfl
theorem app_drop {a : App} : (appC a).drop 14 = [] := rfl
theorem app_0 {a : App} : partOf (appC a) 0 1 false = .int .i64 a.id := rfl
theorem app_1 {a : App} : partOf (appC a) 1 1 false = .int .i64 a.state := rfl
theorem app_2 {a : App} : partOf (appC a) 2 1 false = .str a.queue := rfl
theorem app_3 {a : App} : partOf (appC a) 3 1 false = .int .i64 a.user := rfl
theorem app_4 {a : App} : partOf (appC a) 4 1 false = .int .i64 a.prio := rfl
theorem app_5 {a : App} : partOf (appC a) 5 1 false = .int .i64 a.mem := rfl
theorem app_6 {a : App} : partOf (appC a) 6 1 false = .int .i64 a.cores := rfl
theorem app_7 {a : App} : partOf (appC a) 7 1 false = .sl false 8 (a.asks.map ASK) := rfl
theorem app_8 {a : App} : partOf (appC a) 8 1 false = .int .i64 a.seen := rfl
theorem app_9 {a : App} : partOf (appC a) 9 1 false = .int .i64 a.beat := rfl
theorem app_10 {a : App} : partOf (appC a) 10 1 false = .sl false 1 (a.grants.map I64) := rfl
theorem app_11 {a : App} : partOf (appC a) 11 1 false = .sl false 1 (a.kills.map I64) := rfl
theorem app_12 {a : App} : partOf (appC a) 12 1 false = .sl false 1 (a.told.map I64) := rfl
theorem app_13 {a : App} : partOf (appC a) 13 1 false = .sl false 1 (a.lost.map I64) := rfl
theorem app_g5 {a : App} : partOf (appC a) 5 2 true = .agg [.int .i64 a.mem, .int .i64 a.cores] := rfl
theorem app_s0 {a : App} {v : Int} : (appC a).take 0 ++ .int .i64 v :: (appC a).drop 1 = appC { a with id := v } := rfl
theorem app_s1 {a : App} {v : Int} : (appC a).take 1 ++ .int .i64 v :: (appC a).drop 2 = appC { a with state := v } := rfl
theorem app_s2 {a : App} {v : List UInt8} : (appC a).take 2 ++ .str v :: (appC a).drop 3 = appC { a with queue := v } := rfl
theorem app_s3 {a : App} {v : Int} : (appC a).take 3 ++ .int .i64 v :: (appC a).drop 4 = appC { a with user := v } := rfl
theorem app_s4 {a : App} {v : Int} : (appC a).take 4 ++ .int .i64 v :: (appC a).drop 5 = appC { a with prio := v } := rfl
theorem app_s5 {a : App} {v : Int} : (appC a).take 5 ++ .int .i64 v :: (appC a).drop 6 = appC { a with mem := v } := rfl
theorem app_s6 {a : App} {v : Int} : (appC a).take 6 ++ .int .i64 v :: (appC a).drop 7 = appC { a with cores := v } := rfl
theorem app_s7 {a : App} {v : List Ask} : (appC a).take 7 ++ .sl false 8 (v.map ASK) :: (appC a).drop 8 = appC { a with asks := v } := rfl
theorem app_s8 {a : App} {v : Int} : (appC a).take 8 ++ .int .i64 v :: (appC a).drop 9 = appC { a with seen := v } := rfl
theorem app_s9 {a : App} {v : Int} : (appC a).take 9 ++ .int .i64 v :: (appC a).drop 10 = appC { a with beat := v } := rfl
theorem app_s10 {a : App} {v : List Int} : (appC a).take 10 ++ .sl false 1 (v.map I64) :: (appC a).drop 11 = appC { a with grants := v } := rfl
theorem app_s11 {a : App} {v : List Int} : (appC a).take 11 ++ .sl false 1 (v.map I64) :: (appC a).drop 12 = appC { a with kills := v } := rfl
theorem app_s12 {a : App} {v : List Int} : (appC a).take 12 ++ .sl false 1 (v.map I64) :: (appC a).drop 13 = appC { a with told := v } := rfl
theorem app_s13 {a : App} {v : List Int} : (appC a).take 13 ++ .sl false 1 (v.map I64) :: (appC a).drop 14 = appC { a with lost := v } := rfl
theorem app_nxt {P : Program} {d : Bool} {t : Nat} {l : List COper} {r : Regs} {L : St → Prop} {Lp : AV → St → Prop} {a : App} {H : List AO} : nxt P d t l r L Lp (APP a) H = opsK P d l ⟨(t, APP a) :: r, H⟩ L Lp := rfl
theorem app_ro {a : App} {ρ : Nat → Option Nat} : AV.roL ρ (appC a) = appC a := rfl
theorem app_bo {a : App} {ρ : Nat → Option Nat} {n : Nat} : AV.boL ρ n (appC a) = true := rfl
attribute [simp] app_ro app_bo
theorem app_ids {a : App} : AV.ids (APP a) = [] := rfl
theorem app_ids2 {a : App} : AV.ids2 (APP a) = [] := rfl
theorem app_get {l : List App} {i : Nat} (h : i < l.length) : (l.map APP).getD i .top = APP l[i] := by simp [List.getD_eq_getElem?_getD, h]
theorem app_upd {l : List App} {i : Nat} {x : App} : (l.map APP).set i (elemUpd ((l.map APP).getD i .top) 0 14 (appC x)) = (l.set i x).map APP := by
  by_cases h : i < l.length
  · rw [app_get h, List.map_set]; rfl
  · rw [List.set_eq_of_length_le (by simp; omega), List.set_eq_of_length_le (by omega)]
theorem app_u0 {l : List App} {i : Nat} {v : Int} : (l.map APP).set i (elemUpd ((l.map APP).getD i .top) 0 1 [.int .i64 v]) = (l.set i { l.getD i default with id := v }).map APP := by
  by_cases h : i < l.length
  · rw [app_get h, List.map_set, List.getD_eq_getElem?_getD, List.getElem?_eq_getElem h]; rfl
  · rw [List.set_eq_of_length_le (by simp; omega), List.set_eq_of_length_le (by omega)]
theorem app_u1 {l : List App} {i : Nat} {v : Int} : (l.map APP).set i (elemUpd ((l.map APP).getD i .top) 1 1 [.int .i64 v]) = (l.set i { l.getD i default with state := v }).map APP := by
  by_cases h : i < l.length
  · rw [app_get h, List.map_set, List.getD_eq_getElem?_getD, List.getElem?_eq_getElem h]; rfl
  · rw [List.set_eq_of_length_le (by simp; omega), List.set_eq_of_length_le (by omega)]
theorem app_u2 {l : List App} {i : Nat} {v : List UInt8} : (l.map APP).set i (elemUpd ((l.map APP).getD i .top) 2 1 [.str v]) = (l.set i { l.getD i default with queue := v }).map APP := by
  by_cases h : i < l.length
  · rw [app_get h, List.map_set, List.getD_eq_getElem?_getD, List.getElem?_eq_getElem h]; rfl
  · rw [List.set_eq_of_length_le (by simp; omega), List.set_eq_of_length_le (by omega)]
theorem app_u3 {l : List App} {i : Nat} {v : Int} : (l.map APP).set i (elemUpd ((l.map APP).getD i .top) 3 1 [.int .i64 v]) = (l.set i { l.getD i default with user := v }).map APP := by
  by_cases h : i < l.length
  · rw [app_get h, List.map_set, List.getD_eq_getElem?_getD, List.getElem?_eq_getElem h]; rfl
  · rw [List.set_eq_of_length_le (by simp; omega), List.set_eq_of_length_le (by omega)]
theorem app_u4 {l : List App} {i : Nat} {v : Int} : (l.map APP).set i (elemUpd ((l.map APP).getD i .top) 4 1 [.int .i64 v]) = (l.set i { l.getD i default with prio := v }).map APP := by
  by_cases h : i < l.length
  · rw [app_get h, List.map_set, List.getD_eq_getElem?_getD, List.getElem?_eq_getElem h]; rfl
  · rw [List.set_eq_of_length_le (by simp; omega), List.set_eq_of_length_le (by omega)]
theorem app_u5 {l : List App} {i : Nat} {v : Int} : (l.map APP).set i (elemUpd ((l.map APP).getD i .top) 5 1 [.int .i64 v]) = (l.set i { l.getD i default with mem := v }).map APP := by
  by_cases h : i < l.length
  · rw [app_get h, List.map_set, List.getD_eq_getElem?_getD, List.getElem?_eq_getElem h]; rfl
  · rw [List.set_eq_of_length_le (by simp; omega), List.set_eq_of_length_le (by omega)]
theorem app_u6 {l : List App} {i : Nat} {v : Int} : (l.map APP).set i (elemUpd ((l.map APP).getD i .top) 6 1 [.int .i64 v]) = (l.set i { l.getD i default with cores := v }).map APP := by
  by_cases h : i < l.length
  · rw [app_get h, List.map_set, List.getD_eq_getElem?_getD, List.getElem?_eq_getElem h]; rfl
  · rw [List.set_eq_of_length_le (by simp; omega), List.set_eq_of_length_le (by omega)]
theorem app_u7 {l : List App} {i : Nat} {v : List Ask} : (l.map APP).set i (elemUpd ((l.map APP).getD i .top) 7 1 [.sl false 8 (v.map ASK)]) = (l.set i { l.getD i default with asks := v }).map APP := by
  by_cases h : i < l.length
  · rw [app_get h, List.map_set, List.getD_eq_getElem?_getD, List.getElem?_eq_getElem h]; rfl
  · rw [List.set_eq_of_length_le (by simp; omega), List.set_eq_of_length_le (by omega)]
theorem app_u8 {l : List App} {i : Nat} {v : Int} : (l.map APP).set i (elemUpd ((l.map APP).getD i .top) 8 1 [.int .i64 v]) = (l.set i { l.getD i default with seen := v }).map APP := by
  by_cases h : i < l.length
  · rw [app_get h, List.map_set, List.getD_eq_getElem?_getD, List.getElem?_eq_getElem h]; rfl
  · rw [List.set_eq_of_length_le (by simp; omega), List.set_eq_of_length_le (by omega)]
theorem app_u9 {l : List App} {i : Nat} {v : Int} : (l.map APP).set i (elemUpd ((l.map APP).getD i .top) 9 1 [.int .i64 v]) = (l.set i { l.getD i default with beat := v }).map APP := by
  by_cases h : i < l.length
  · rw [app_get h, List.map_set, List.getD_eq_getElem?_getD, List.getElem?_eq_getElem h]; rfl
  · rw [List.set_eq_of_length_le (by simp; omega), List.set_eq_of_length_le (by omega)]
theorem app_u10 {l : List App} {i : Nat} {v : List Int} : (l.map APP).set i (elemUpd ((l.map APP).getD i .top) 10 1 [.sl false 1 (v.map I64)]) = (l.set i { l.getD i default with grants := v }).map APP := by
  by_cases h : i < l.length
  · rw [app_get h, List.map_set, List.getD_eq_getElem?_getD, List.getElem?_eq_getElem h]; rfl
  · rw [List.set_eq_of_length_le (by simp; omega), List.set_eq_of_length_le (by omega)]
theorem app_u11 {l : List App} {i : Nat} {v : List Int} : (l.map APP).set i (elemUpd ((l.map APP).getD i .top) 11 1 [.sl false 1 (v.map I64)]) = (l.set i { l.getD i default with kills := v }).map APP := by
  by_cases h : i < l.length
  · rw [app_get h, List.map_set, List.getD_eq_getElem?_getD, List.getElem?_eq_getElem h]; rfl
  · rw [List.set_eq_of_length_le (by simp; omega), List.set_eq_of_length_le (by omega)]
theorem app_u12 {l : List App} {i : Nat} {v : List Int} : (l.map APP).set i (elemUpd ((l.map APP).getD i .top) 12 1 [.sl false 1 (v.map I64)]) = (l.set i { l.getD i default with told := v }).map APP := by
  by_cases h : i < l.length
  · rw [app_get h, List.map_set, List.getD_eq_getElem?_getD, List.getElem?_eq_getElem h]; rfl
  · rw [List.set_eq_of_length_le (by simp; omega), List.set_eq_of_length_le (by omega)]
theorem app_u13 {l : List App} {i : Nat} {v : List Int} : (l.map APP).set i (elemUpd ((l.map APP).getD i .top) 13 1 [.sl false 1 (v.map I64)]) = (l.set i { l.getD i default with lost := v }).map APP := by
  by_cases h : i < l.length
  · rw [app_get h, List.map_set, List.getD_eq_getElem?_getD, List.getElem?_eq_getElem h]; rfl
  · rw [List.set_eq_of_length_le (by simp; omega), List.set_eq_of_length_le (by omega)]
set_option linter.defProp false in
def appS := ai @app_cells (ai @app_len (ai @app_one (ai @app_ok (ai @app_el (ai @app_all (ai @app_drop (ai @app_0 (ai @app_1 (ai @app_2 (ai @app_3 (ai @app_4 (ai @app_5 (ai @app_6 (ai @app_7 (ai @app_8 (ai @app_9 (ai @app_10 (ai @app_11 (ai @app_12 (ai @app_13 (ai @app_g5 (ai @app_s0 (ai @app_s1 (ai @app_s2 (ai @app_s3 (ai @app_s4 (ai @app_s5 (ai @app_s6 (ai @app_s7 (ai @app_s8 (ai @app_s9 (ai @app_s10 (ai @app_s11 (ai @app_s12 (ai @app_s13 (ai @app_nxt (ai @app_ro (ai @app_bo (ai @app_ids (ai @app_ids2 (ai @app_upd (ai @app_u0 (ai @app_u1 (ai @app_u2 (ai @app_u3 (ai @app_u4 (ai @app_u5 (ai @app_u6 (ai @app_u7 (ai @app_u8 (ai @app_u9 (ai @app_u10 (ai @app_u11 (ai @app_u12 (@app_u13)))))))))))))))))))))))))))))))))))))))))))))))))))))))
theorem app_t0a {a : App} {v : Int} : .int .i64 v :: List.drop 1 (appC a) = appC { a with id := v } := rfl
theorem app_t1a {a : App} {v : Int} : List.take 1 (appC a) ++ [.int .i64 v] ++ List.drop 2 (appC a) = appC { a with state := v } := rfl
theorem app_d1 {a : App} : partOf (List.drop 1 (appC a)) 0 1 false = .int .i64 a.state := rfl
theorem app_t2a {a : App} {v : List UInt8} : List.take 2 (appC a) ++ [.str v] ++ List.drop 3 (appC a) = appC { a with queue := v } := rfl
theorem app_d2 {a : App} : partOf (List.drop 2 (appC a)) 0 1 false = .str a.queue := rfl
theorem app_t3a {a : App} {v : Int} : List.take 3 (appC a) ++ [.int .i64 v] ++ List.drop 4 (appC a) = appC { a with user := v } := rfl
theorem app_d3 {a : App} : partOf (List.drop 3 (appC a)) 0 1 false = .int .i64 a.user := rfl
theorem app_t4a {a : App} {v : Int} : List.take 4 (appC a) ++ [.int .i64 v] ++ List.drop 5 (appC a) = appC { a with prio := v } := rfl
theorem app_d4 {a : App} : partOf (List.drop 4 (appC a)) 0 1 false = .int .i64 a.prio := rfl
theorem app_t5a {a : App} {v : Int} : List.take 5 (appC a) ++ [.int .i64 v] ++ List.drop 6 (appC a) = appC { a with mem := v } := rfl
theorem app_d5 {a : App} : partOf (List.drop 5 (appC a)) 0 1 false = .int .i64 a.mem := rfl
theorem app_t6a {a : App} {v : Int} : List.take 6 (appC a) ++ [.int .i64 v] ++ List.drop 7 (appC a) = appC { a with cores := v } := rfl
theorem app_d6 {a : App} : partOf (List.drop 6 (appC a)) 0 1 false = .int .i64 a.cores := rfl
theorem app_t7a {a : App} {v : List Ask} : List.take 7 (appC a) ++ [.sl false 8 (v.map ASK)] ++ List.drop 8 (appC a) = appC { a with asks := v } := rfl
theorem app_d7 {a : App} : partOf (List.drop 7 (appC a)) 0 1 false = .sl false 8 (a.asks.map ASK) := rfl
theorem app_t8a {a : App} {v : Int} : List.take 8 (appC a) ++ [.int .i64 v] ++ List.drop 9 (appC a) = appC { a with seen := v } := rfl
theorem app_d8 {a : App} : partOf (List.drop 8 (appC a)) 0 1 false = .int .i64 a.seen := rfl
theorem app_t9a {a : App} {v : Int} : List.take 9 (appC a) ++ [.int .i64 v] ++ List.drop 10 (appC a) = appC { a with beat := v } := rfl
theorem app_d9 {a : App} : partOf (List.drop 9 (appC a)) 0 1 false = .int .i64 a.beat := rfl
theorem app_t10a {a : App} {v : List Int} : List.take 10 (appC a) ++ [.sl false 1 (v.map I64)] ++ List.drop 11 (appC a) = appC { a with grants := v } := rfl
theorem app_d10 {a : App} : partOf (List.drop 10 (appC a)) 0 1 false = .sl false 1 (a.grants.map I64) := rfl
theorem app_t11a {a : App} {v : List Int} : List.take 11 (appC a) ++ [.sl false 1 (v.map I64)] ++ List.drop 12 (appC a) = appC { a with kills := v } := rfl
theorem app_d11 {a : App} : partOf (List.drop 11 (appC a)) 0 1 false = .sl false 1 (a.kills.map I64) := rfl
theorem app_t12a {a : App} {v : List Int} : List.take 12 (appC a) ++ [.sl false 1 (v.map I64)] ++ List.drop 13 (appC a) = appC { a with told := v } := rfl
theorem app_d12 {a : App} : partOf (List.drop 12 (appC a)) 0 1 false = .sl false 1 (a.told.map I64) := rfl
theorem app_t13a {a : App} {v : List Int} : List.take 13 (appC a) ++ [.sl false 1 (v.map I64)] ++ [] = appC { a with lost := v } := rfl
theorem app_t13b {a : App} {v : List Int} : List.take 13 (appC a) ++ [.sl false 1 (v.map I64)] = appC { a with lost := v } := rfl
theorem app_d13 {a : App} : partOf (List.drop 13 (appC a)) 0 1 false = .sl false 1 (a.lost.map I64) := rfl
theorem app_e5 {a : App} : partOf (List.drop 5 (appC a)) 0 1 false = .int .i64 a.mem := rfl
theorem app_e6 {a : App} : partOf (List.drop 5 (appC a)) 1 1 false = .int .i64 a.cores := rfl
set_option linter.defProp false in
def appT := ai @app_t0a (ai @app_t1a (ai @app_t2a (ai @app_t3a (ai @app_t4a (ai @app_t5a (ai @app_t6a (ai @app_t7a (ai @app_t8a (ai @app_t9a (ai @app_t10a (ai @app_t11a (ai @app_t12a (ai @app_t13a (@app_t13b))))))))))))))
set_option linter.defProp false in
def appD := ai @app_d1 (ai @app_d2 (ai @app_d3 (ai @app_d4 (ai @app_d5 (ai @app_d6 (ai @app_d7 (ai @app_d8 (ai @app_d9 (ai @app_d10 (ai @app_d11 (ai @app_d12 (ai @app_d13 (ai @app_e5 (@app_e6))))))))))))))

structure Cont where
  id : Int
  app : Int
  node : Int
  mem : Int
  cores : Int
  prio : Int
  label : Int
  master : Bool
  notice : Int
  deriving DecidableEq, Inhabited
def contC (a : Cont) : List AV := [.int .i64 a.id, .int .i64 a.app, .int .i64 a.node, .int .i64 a.mem, .int .i64 a.cores, .int .i64 a.prio, .int .i64 a.label, .bool a.master, .int .i64 a.notice]
def CONT (a : Cont) : AV := .agg (contC a)
theorem cont_cells {a : Cont} : (CONT a).cells = contC a := rfl
theorem cont_len {a : Cont} : (contC a).length = 9 := rfl
theorem cont_one {a : Cont} : (contC a).all AV.one = true := rfl
theorem cont_ok {a : Cont} : (contC a).all AV.ok = true := rfl
theorem cont_el {a : Cont} : (CONT a).el 9 = true := rfl
theorem cont_all {a : Cont} : partOf (contC a) 0 9 true = CONT a := rfl
theorem cont_drop {a : Cont} : (contC a).drop 9 = [] := rfl
theorem cont_0 {a : Cont} : partOf (contC a) 0 1 false = .int .i64 a.id := rfl
theorem cont_1 {a : Cont} : partOf (contC a) 1 1 false = .int .i64 a.app := rfl
theorem cont_2 {a : Cont} : partOf (contC a) 2 1 false = .int .i64 a.node := rfl
theorem cont_3 {a : Cont} : partOf (contC a) 3 1 false = .int .i64 a.mem := rfl
theorem cont_4 {a : Cont} : partOf (contC a) 4 1 false = .int .i64 a.cores := rfl
theorem cont_5 {a : Cont} : partOf (contC a) 5 1 false = .int .i64 a.prio := rfl
theorem cont_6 {a : Cont} : partOf (contC a) 6 1 false = .int .i64 a.label := rfl
theorem cont_7 {a : Cont} : partOf (contC a) 7 1 false = .bool a.master := rfl
theorem cont_8 {a : Cont} : partOf (contC a) 8 1 false = .int .i64 a.notice := rfl
theorem cont_g3 {a : Cont} : partOf (contC a) 3 2 true = .agg [.int .i64 a.mem, .int .i64 a.cores] := rfl
theorem cont_s0 {a : Cont} {v : Int} : (contC a).take 0 ++ .int .i64 v :: (contC a).drop 1 = contC { a with id := v } := rfl
theorem cont_s1 {a : Cont} {v : Int} : (contC a).take 1 ++ .int .i64 v :: (contC a).drop 2 = contC { a with app := v } := rfl
theorem cont_s2 {a : Cont} {v : Int} : (contC a).take 2 ++ .int .i64 v :: (contC a).drop 3 = contC { a with node := v } := rfl
theorem cont_s3 {a : Cont} {v : Int} : (contC a).take 3 ++ .int .i64 v :: (contC a).drop 4 = contC { a with mem := v } := rfl
theorem cont_s4 {a : Cont} {v : Int} : (contC a).take 4 ++ .int .i64 v :: (contC a).drop 5 = contC { a with cores := v } := rfl
theorem cont_s5 {a : Cont} {v : Int} : (contC a).take 5 ++ .int .i64 v :: (contC a).drop 6 = contC { a with prio := v } := rfl
theorem cont_s6 {a : Cont} {v : Int} : (contC a).take 6 ++ .int .i64 v :: (contC a).drop 7 = contC { a with label := v } := rfl
theorem cont_s7 {a : Cont} {v : Bool} : (contC a).take 7 ++ .bool v :: (contC a).drop 8 = contC { a with master := v } := rfl
theorem cont_s8 {a : Cont} {v : Int} : (contC a).take 8 ++ .int .i64 v :: (contC a).drop 9 = contC { a with notice := v } := rfl
theorem cont_nxt {P : Program} {d : Bool} {t : Nat} {l : List COper} {r : Regs} {L : St → Prop} {Lp : AV → St → Prop} {a : Cont} {H : List AO} : nxt P d t l r L Lp (CONT a) H = opsK P d l ⟨(t, CONT a) :: r, H⟩ L Lp := rfl
theorem cont_ro {a : Cont} {ρ : Nat → Option Nat} : AV.roL ρ (contC a) = contC a := rfl
theorem cont_bo {a : Cont} {ρ : Nat → Option Nat} {n : Nat} : AV.boL ρ n (contC a) = true := rfl
attribute [simp] cont_ro cont_bo
theorem cont_ids {a : Cont} : AV.ids (CONT a) = [] := rfl
theorem cont_ids2 {a : Cont} : AV.ids2 (CONT a) = [] := rfl
theorem cont_get {l : List Cont} {i : Nat} (h : i < l.length) : (l.map CONT).getD i .top = CONT l[i] := by simp [List.getD_eq_getElem?_getD, h]
theorem cont_upd {l : List Cont} {i : Nat} {x : Cont} : (l.map CONT).set i (elemUpd ((l.map CONT).getD i .top) 0 9 (contC x)) = (l.set i x).map CONT := by
  by_cases h : i < l.length
  · rw [cont_get h, List.map_set]; rfl
  · rw [List.set_eq_of_length_le (by simp; omega), List.set_eq_of_length_le (by omega)]
theorem cont_u0 {l : List Cont} {i : Nat} {v : Int} : (l.map CONT).set i (elemUpd ((l.map CONT).getD i .top) 0 1 [.int .i64 v]) = (l.set i { l.getD i default with id := v }).map CONT := by
  by_cases h : i < l.length
  · rw [cont_get h, List.map_set, List.getD_eq_getElem?_getD, List.getElem?_eq_getElem h]; rfl
  · rw [List.set_eq_of_length_le (by simp; omega), List.set_eq_of_length_le (by omega)]
theorem cont_u1 {l : List Cont} {i : Nat} {v : Int} : (l.map CONT).set i (elemUpd ((l.map CONT).getD i .top) 1 1 [.int .i64 v]) = (l.set i { l.getD i default with app := v }).map CONT := by
  by_cases h : i < l.length
  · rw [cont_get h, List.map_set, List.getD_eq_getElem?_getD, List.getElem?_eq_getElem h]; rfl
  · rw [List.set_eq_of_length_le (by simp; omega), List.set_eq_of_length_le (by omega)]
theorem cont_u2 {l : List Cont} {i : Nat} {v : Int} : (l.map CONT).set i (elemUpd ((l.map CONT).getD i .top) 2 1 [.int .i64 v]) = (l.set i { l.getD i default with node := v }).map CONT := by
  by_cases h : i < l.length
  · rw [cont_get h, List.map_set, List.getD_eq_getElem?_getD, List.getElem?_eq_getElem h]; rfl
  · rw [List.set_eq_of_length_le (by simp; omega), List.set_eq_of_length_le (by omega)]
theorem cont_u3 {l : List Cont} {i : Nat} {v : Int} : (l.map CONT).set i (elemUpd ((l.map CONT).getD i .top) 3 1 [.int .i64 v]) = (l.set i { l.getD i default with mem := v }).map CONT := by
  by_cases h : i < l.length
  · rw [cont_get h, List.map_set, List.getD_eq_getElem?_getD, List.getElem?_eq_getElem h]; rfl
  · rw [List.set_eq_of_length_le (by simp; omega), List.set_eq_of_length_le (by omega)]
theorem cont_u4 {l : List Cont} {i : Nat} {v : Int} : (l.map CONT).set i (elemUpd ((l.map CONT).getD i .top) 4 1 [.int .i64 v]) = (l.set i { l.getD i default with cores := v }).map CONT := by
  by_cases h : i < l.length
  · rw [cont_get h, List.map_set, List.getD_eq_getElem?_getD, List.getElem?_eq_getElem h]; rfl
  · rw [List.set_eq_of_length_le (by simp; omega), List.set_eq_of_length_le (by omega)]
theorem cont_u5 {l : List Cont} {i : Nat} {v : Int} : (l.map CONT).set i (elemUpd ((l.map CONT).getD i .top) 5 1 [.int .i64 v]) = (l.set i { l.getD i default with prio := v }).map CONT := by
  by_cases h : i < l.length
  · rw [cont_get h, List.map_set, List.getD_eq_getElem?_getD, List.getElem?_eq_getElem h]; rfl
  · rw [List.set_eq_of_length_le (by simp; omega), List.set_eq_of_length_le (by omega)]
theorem cont_u6 {l : List Cont} {i : Nat} {v : Int} : (l.map CONT).set i (elemUpd ((l.map CONT).getD i .top) 6 1 [.int .i64 v]) = (l.set i { l.getD i default with label := v }).map CONT := by
  by_cases h : i < l.length
  · rw [cont_get h, List.map_set, List.getD_eq_getElem?_getD, List.getElem?_eq_getElem h]; rfl
  · rw [List.set_eq_of_length_le (by simp; omega), List.set_eq_of_length_le (by omega)]
theorem cont_u7 {l : List Cont} {i : Nat} {v : Bool} : (l.map CONT).set i (elemUpd ((l.map CONT).getD i .top) 7 1 [.bool v]) = (l.set i { l.getD i default with master := v }).map CONT := by
  by_cases h : i < l.length
  · rw [cont_get h, List.map_set, List.getD_eq_getElem?_getD, List.getElem?_eq_getElem h]; rfl
  · rw [List.set_eq_of_length_le (by simp; omega), List.set_eq_of_length_le (by omega)]
theorem cont_u8 {l : List Cont} {i : Nat} {v : Int} : (l.map CONT).set i (elemUpd ((l.map CONT).getD i .top) 8 1 [.int .i64 v]) = (l.set i { l.getD i default with notice := v }).map CONT := by
  by_cases h : i < l.length
  · rw [cont_get h, List.map_set, List.getD_eq_getElem?_getD, List.getElem?_eq_getElem h]; rfl
  · rw [List.set_eq_of_length_le (by simp; omega), List.set_eq_of_length_le (by omega)]
set_option linter.defProp false in
def contS := ai @cont_cells (ai @cont_len (ai @cont_one (ai @cont_ok (ai @cont_el (ai @cont_all (ai @cont_drop (ai @cont_0 (ai @cont_1 (ai @cont_2 (ai @cont_3 (ai @cont_4 (ai @cont_5 (ai @cont_6 (ai @cont_7 (ai @cont_8 (ai @cont_g3 (ai @cont_s0 (ai @cont_s1 (ai @cont_s2 (ai @cont_s3 (ai @cont_s4 (ai @cont_s5 (ai @cont_s6 (ai @cont_s7 (ai @cont_s8 (ai @cont_nxt (ai @cont_ro (ai @cont_bo (ai @cont_ids (ai @cont_ids2 (ai @cont_upd (ai @cont_u0 (ai @cont_u1 (ai @cont_u2 (ai @cont_u3 (ai @cont_u4 (ai @cont_u5 (ai @cont_u6 (ai @cont_u7 (@cont_u8))))))))))))))))))))))))))))))))))))))))
theorem cont_t0a {a : Cont} {v : Int} : .int .i64 v :: List.drop 1 (contC a) = contC { a with id := v } := rfl
theorem cont_t1a {a : Cont} {v : Int} : List.take 1 (contC a) ++ [.int .i64 v] ++ List.drop 2 (contC a) = contC { a with app := v } := rfl
theorem cont_d1 {a : Cont} : partOf (List.drop 1 (contC a)) 0 1 false = .int .i64 a.app := rfl
theorem cont_t2a {a : Cont} {v : Int} : List.take 2 (contC a) ++ [.int .i64 v] ++ List.drop 3 (contC a) = contC { a with node := v } := rfl
theorem cont_d2 {a : Cont} : partOf (List.drop 2 (contC a)) 0 1 false = .int .i64 a.node := rfl
theorem cont_t3a {a : Cont} {v : Int} : List.take 3 (contC a) ++ [.int .i64 v] ++ List.drop 4 (contC a) = contC { a with mem := v } := rfl
theorem cont_d3 {a : Cont} : partOf (List.drop 3 (contC a)) 0 1 false = .int .i64 a.mem := rfl
theorem cont_t4a {a : Cont} {v : Int} : List.take 4 (contC a) ++ [.int .i64 v] ++ List.drop 5 (contC a) = contC { a with cores := v } := rfl
theorem cont_d4 {a : Cont} : partOf (List.drop 4 (contC a)) 0 1 false = .int .i64 a.cores := rfl
theorem cont_t5a {a : Cont} {v : Int} : List.take 5 (contC a) ++ [.int .i64 v] ++ List.drop 6 (contC a) = contC { a with prio := v } := rfl
theorem cont_d5 {a : Cont} : partOf (List.drop 5 (contC a)) 0 1 false = .int .i64 a.prio := rfl
theorem cont_t6a {a : Cont} {v : Int} : List.take 6 (contC a) ++ [.int .i64 v] ++ List.drop 7 (contC a) = contC { a with label := v } := rfl
theorem cont_d6 {a : Cont} : partOf (List.drop 6 (contC a)) 0 1 false = .int .i64 a.label := rfl
theorem cont_t7a {a : Cont} {v : Bool} : List.take 7 (contC a) ++ [.bool v] ++ List.drop 8 (contC a) = contC { a with master := v } := rfl
theorem cont_d7 {a : Cont} : partOf (List.drop 7 (contC a)) 0 1 false = .bool a.master := rfl
theorem cont_t8a {a : Cont} {v : Int} : List.take 8 (contC a) ++ [.int .i64 v] ++ [] = contC { a with notice := v } := rfl
theorem cont_t8b {a : Cont} {v : Int} : List.take 8 (contC a) ++ [.int .i64 v] = contC { a with notice := v } := rfl
theorem cont_d8 {a : Cont} : partOf (List.drop 8 (contC a)) 0 1 false = .int .i64 a.notice := rfl
theorem cont_e3 {a : Cont} : partOf (List.drop 3 (contC a)) 0 1 false = .int .i64 a.mem := rfl
theorem cont_e4 {a : Cont} : partOf (List.drop 3 (contC a)) 1 1 false = .int .i64 a.cores := rfl
set_option linter.defProp false in
def contT := ai @cont_t0a (ai @cont_t1a (ai @cont_t2a (ai @cont_t3a (ai @cont_t4a (ai @cont_t5a (ai @cont_t6a (ai @cont_t7a (ai @cont_t8a (@cont_t8b)))))))))
set_option linter.defProp false in
def contD := ai @cont_d1 (ai @cont_d2 (ai @cont_d3 (ai @cont_d4 (ai @cont_d5 (ai @cont_d6 (ai @cont_d7 (ai @cont_d8 (ai @cont_e3 (@cont_e4)))))))))

structure Slot where
  node : Int
  app : Int
  prio : Int
  deriving DecidableEq, Inhabited
def slotC (a : Slot) : List AV := [.int .i64 a.node, .int .i64 a.app, .int .i64 a.prio]
def SLOT (a : Slot) : AV := .agg (slotC a)
theorem slot_cells {a : Slot} : (SLOT a).cells = slotC a := rfl
theorem slot_len {a : Slot} : (slotC a).length = 3 := rfl
theorem slot_one {a : Slot} : (slotC a).all AV.one = true := rfl
theorem slot_ok {a : Slot} : (slotC a).all AV.ok = true := rfl
theorem slot_el {a : Slot} : (SLOT a).el 3 = true := rfl
theorem slot_all {a : Slot} : partOf (slotC a) 0 3 true = SLOT a := rfl
theorem slot_drop {a : Slot} : (slotC a).drop 3 = [] := rfl
theorem slot_0 {a : Slot} : partOf (slotC a) 0 1 false = .int .i64 a.node := rfl
theorem slot_1 {a : Slot} : partOf (slotC a) 1 1 false = .int .i64 a.app := rfl
theorem slot_2 {a : Slot} : partOf (slotC a) 2 1 false = .int .i64 a.prio := rfl
theorem slot_s0 {a : Slot} {v : Int} : (slotC a).take 0 ++ .int .i64 v :: (slotC a).drop 1 = slotC { a with node := v } := rfl
theorem slot_s1 {a : Slot} {v : Int} : (slotC a).take 1 ++ .int .i64 v :: (slotC a).drop 2 = slotC { a with app := v } := rfl
theorem slot_s2 {a : Slot} {v : Int} : (slotC a).take 2 ++ .int .i64 v :: (slotC a).drop 3 = slotC { a with prio := v } := rfl
theorem slot_nxt {P : Program} {d : Bool} {t : Nat} {l : List COper} {r : Regs} {L : St → Prop} {Lp : AV → St → Prop} {a : Slot} {H : List AO} : nxt P d t l r L Lp (SLOT a) H = opsK P d l ⟨(t, SLOT a) :: r, H⟩ L Lp := rfl
theorem slot_ro {a : Slot} {ρ : Nat → Option Nat} : AV.roL ρ (slotC a) = slotC a := rfl
theorem slot_bo {a : Slot} {ρ : Nat → Option Nat} {n : Nat} : AV.boL ρ n (slotC a) = true := rfl
attribute [simp] slot_ro slot_bo
theorem slot_ids {a : Slot} : AV.ids (SLOT a) = [] := rfl
theorem slot_ids2 {a : Slot} : AV.ids2 (SLOT a) = [] := rfl
theorem slot_get {l : List Slot} {i : Nat} (h : i < l.length) : (l.map SLOT).getD i .top = SLOT l[i] := by simp [List.getD_eq_getElem?_getD, h]
theorem slot_upd {l : List Slot} {i : Nat} {x : Slot} : (l.map SLOT).set i (elemUpd ((l.map SLOT).getD i .top) 0 3 (slotC x)) = (l.set i x).map SLOT := by
  by_cases h : i < l.length
  · rw [slot_get h, List.map_set]; rfl
  · rw [List.set_eq_of_length_le (by simp; omega), List.set_eq_of_length_le (by omega)]
theorem slot_u0 {l : List Slot} {i : Nat} {v : Int} : (l.map SLOT).set i (elemUpd ((l.map SLOT).getD i .top) 0 1 [.int .i64 v]) = (l.set i { l.getD i default with node := v }).map SLOT := by
  by_cases h : i < l.length
  · rw [slot_get h, List.map_set, List.getD_eq_getElem?_getD, List.getElem?_eq_getElem h]; rfl
  · rw [List.set_eq_of_length_le (by simp; omega), List.set_eq_of_length_le (by omega)]
theorem slot_u1 {l : List Slot} {i : Nat} {v : Int} : (l.map SLOT).set i (elemUpd ((l.map SLOT).getD i .top) 1 1 [.int .i64 v]) = (l.set i { l.getD i default with app := v }).map SLOT := by
  by_cases h : i < l.length
  · rw [slot_get h, List.map_set, List.getD_eq_getElem?_getD, List.getElem?_eq_getElem h]; rfl
  · rw [List.set_eq_of_length_le (by simp; omega), List.set_eq_of_length_le (by omega)]
theorem slot_u2 {l : List Slot} {i : Nat} {v : Int} : (l.map SLOT).set i (elemUpd ((l.map SLOT).getD i .top) 2 1 [.int .i64 v]) = (l.set i { l.getD i default with prio := v }).map SLOT := by
  by_cases h : i < l.length
  · rw [slot_get h, List.map_set, List.getD_eq_getElem?_getD, List.getElem?_eq_getElem h]; rfl
  · rw [List.set_eq_of_length_le (by simp; omega), List.set_eq_of_length_le (by omega)]
set_option linter.defProp false in
def slotS := ai @slot_cells (ai @slot_len (ai @slot_one (ai @slot_ok (ai @slot_el (ai @slot_all (ai @slot_drop (ai @slot_0 (ai @slot_1 (ai @slot_2 (ai @slot_s0 (ai @slot_s1 (ai @slot_s2 (ai @slot_nxt (ai @slot_ro (ai @slot_bo (ai @slot_ids (ai @slot_ids2 (ai @slot_upd (ai @slot_u0 (ai @slot_u1 (@slot_u2)))))))))))))))))))))
theorem slot_t0a {a : Slot} {v : Int} : .int .i64 v :: List.drop 1 (slotC a) = slotC { a with node := v } := rfl
theorem slot_t1a {a : Slot} {v : Int} : List.take 1 (slotC a) ++ [.int .i64 v] ++ List.drop 2 (slotC a) = slotC { a with app := v } := rfl
theorem slot_d1 {a : Slot} : partOf (List.drop 1 (slotC a)) 0 1 false = .int .i64 a.app := rfl
theorem slot_t2a {a : Slot} {v : Int} : List.take 2 (slotC a) ++ [.int .i64 v] ++ [] = slotC { a with prio := v } := rfl
theorem slot_t2b {a : Slot} {v : Int} : List.take 2 (slotC a) ++ [.int .i64 v] = slotC { a with prio := v } := rfl
theorem slot_d2 {a : Slot} : partOf (List.drop 2 (slotC a)) 0 1 false = .int .i64 a.prio := rfl
set_option linter.defProp false in
def slotT := ai @slot_t0a (ai @slot_t1a (ai @slot_t2a (@slot_t2b)))
set_option linter.defProp false in
def slotD := ai @slot_d1 (@slot_d2)

structure Plan where
  id : Int
  label : Int
  frm : Int
  til : Int
  mem : Int
  cores : Int
  deriving DecidableEq, Inhabited
def planC (a : Plan) : List AV := [.int .i64 a.id, .int .i64 a.label, .int .i64 a.frm, .int .i64 a.til, .int .i64 a.mem, .int .i64 a.cores]
def PLAN (a : Plan) : AV := .agg (planC a)
theorem plan_cells {a : Plan} : (PLAN a).cells = planC a := rfl
theorem plan_len {a : Plan} : (planC a).length = 6 := rfl
theorem plan_one {a : Plan} : (planC a).all AV.one = true := rfl
theorem plan_ok {a : Plan} : (planC a).all AV.ok = true := rfl
theorem plan_el {a : Plan} : (PLAN a).el 6 = true := rfl
theorem plan_all {a : Plan} : partOf (planC a) 0 6 true = PLAN a := rfl
theorem plan_drop {a : Plan} : (planC a).drop 6 = [] := rfl
theorem plan_0 {a : Plan} : partOf (planC a) 0 1 false = .int .i64 a.id := rfl
theorem plan_1 {a : Plan} : partOf (planC a) 1 1 false = .int .i64 a.label := rfl
theorem plan_2 {a : Plan} : partOf (planC a) 2 1 false = .int .i64 a.frm := rfl
theorem plan_3 {a : Plan} : partOf (planC a) 3 1 false = .int .i64 a.til := rfl
theorem plan_4 {a : Plan} : partOf (planC a) 4 1 false = .int .i64 a.mem := rfl
theorem plan_5 {a : Plan} : partOf (planC a) 5 1 false = .int .i64 a.cores := rfl
theorem plan_g4 {a : Plan} : partOf (planC a) 4 2 true = .agg [.int .i64 a.mem, .int .i64 a.cores] := rfl
theorem plan_s0 {a : Plan} {v : Int} : (planC a).take 0 ++ .int .i64 v :: (planC a).drop 1 = planC { a with id := v } := rfl
theorem plan_s1 {a : Plan} {v : Int} : (planC a).take 1 ++ .int .i64 v :: (planC a).drop 2 = planC { a with label := v } := rfl
theorem plan_s2 {a : Plan} {v : Int} : (planC a).take 2 ++ .int .i64 v :: (planC a).drop 3 = planC { a with frm := v } := rfl
theorem plan_s3 {a : Plan} {v : Int} : (planC a).take 3 ++ .int .i64 v :: (planC a).drop 4 = planC { a with til := v } := rfl
theorem plan_s4 {a : Plan} {v : Int} : (planC a).take 4 ++ .int .i64 v :: (planC a).drop 5 = planC { a with mem := v } := rfl
theorem plan_s5 {a : Plan} {v : Int} : (planC a).take 5 ++ .int .i64 v :: (planC a).drop 6 = planC { a with cores := v } := rfl
theorem plan_nxt {P : Program} {d : Bool} {t : Nat} {l : List COper} {r : Regs} {L : St → Prop} {Lp : AV → St → Prop} {a : Plan} {H : List AO} : nxt P d t l r L Lp (PLAN a) H = opsK P d l ⟨(t, PLAN a) :: r, H⟩ L Lp := rfl
theorem plan_ro {a : Plan} {ρ : Nat → Option Nat} : AV.roL ρ (planC a) = planC a := rfl
theorem plan_bo {a : Plan} {ρ : Nat → Option Nat} {n : Nat} : AV.boL ρ n (planC a) = true := rfl
attribute [simp] plan_ro plan_bo
theorem plan_ids {a : Plan} : AV.ids (PLAN a) = [] := rfl
theorem plan_ids2 {a : Plan} : AV.ids2 (PLAN a) = [] := rfl
theorem plan_get {l : List Plan} {i : Nat} (h : i < l.length) : (l.map PLAN).getD i .top = PLAN l[i] := by simp [List.getD_eq_getElem?_getD, h]
theorem plan_upd {l : List Plan} {i : Nat} {x : Plan} : (l.map PLAN).set i (elemUpd ((l.map PLAN).getD i .top) 0 6 (planC x)) = (l.set i x).map PLAN := by
  by_cases h : i < l.length
  · rw [plan_get h, List.map_set]; rfl
  · rw [List.set_eq_of_length_le (by simp; omega), List.set_eq_of_length_le (by omega)]
theorem plan_u0 {l : List Plan} {i : Nat} {v : Int} : (l.map PLAN).set i (elemUpd ((l.map PLAN).getD i .top) 0 1 [.int .i64 v]) = (l.set i { l.getD i default with id := v }).map PLAN := by
  by_cases h : i < l.length
  · rw [plan_get h, List.map_set, List.getD_eq_getElem?_getD, List.getElem?_eq_getElem h]; rfl
  · rw [List.set_eq_of_length_le (by simp; omega), List.set_eq_of_length_le (by omega)]
theorem plan_u1 {l : List Plan} {i : Nat} {v : Int} : (l.map PLAN).set i (elemUpd ((l.map PLAN).getD i .top) 1 1 [.int .i64 v]) = (l.set i { l.getD i default with label := v }).map PLAN := by
  by_cases h : i < l.length
  · rw [plan_get h, List.map_set, List.getD_eq_getElem?_getD, List.getElem?_eq_getElem h]; rfl
  · rw [List.set_eq_of_length_le (by simp; omega), List.set_eq_of_length_le (by omega)]
theorem plan_u2 {l : List Plan} {i : Nat} {v : Int} : (l.map PLAN).set i (elemUpd ((l.map PLAN).getD i .top) 2 1 [.int .i64 v]) = (l.set i { l.getD i default with frm := v }).map PLAN := by
  by_cases h : i < l.length
  · rw [plan_get h, List.map_set, List.getD_eq_getElem?_getD, List.getElem?_eq_getElem h]; rfl
  · rw [List.set_eq_of_length_le (by simp; omega), List.set_eq_of_length_le (by omega)]
theorem plan_u3 {l : List Plan} {i : Nat} {v : Int} : (l.map PLAN).set i (elemUpd ((l.map PLAN).getD i .top) 3 1 [.int .i64 v]) = (l.set i { l.getD i default with til := v }).map PLAN := by
  by_cases h : i < l.length
  · rw [plan_get h, List.map_set, List.getD_eq_getElem?_getD, List.getElem?_eq_getElem h]; rfl
  · rw [List.set_eq_of_length_le (by simp; omega), List.set_eq_of_length_le (by omega)]
theorem plan_u4 {l : List Plan} {i : Nat} {v : Int} : (l.map PLAN).set i (elemUpd ((l.map PLAN).getD i .top) 4 1 [.int .i64 v]) = (l.set i { l.getD i default with mem := v }).map PLAN := by
  by_cases h : i < l.length
  · rw [plan_get h, List.map_set, List.getD_eq_getElem?_getD, List.getElem?_eq_getElem h]; rfl
  · rw [List.set_eq_of_length_le (by simp; omega), List.set_eq_of_length_le (by omega)]
theorem plan_u5 {l : List Plan} {i : Nat} {v : Int} : (l.map PLAN).set i (elemUpd ((l.map PLAN).getD i .top) 5 1 [.int .i64 v]) = (l.set i { l.getD i default with cores := v }).map PLAN := by
  by_cases h : i < l.length
  · rw [plan_get h, List.map_set, List.getD_eq_getElem?_getD, List.getElem?_eq_getElem h]; rfl
  · rw [List.set_eq_of_length_le (by simp; omega), List.set_eq_of_length_le (by omega)]
set_option linter.defProp false in
def planS := ai @plan_cells (ai @plan_len (ai @plan_one (ai @plan_ok (ai @plan_el (ai @plan_all (ai @plan_drop (ai @plan_0 (ai @plan_1 (ai @plan_2 (ai @plan_3 (ai @plan_4 (ai @plan_5 (ai @plan_g4 (ai @plan_s0 (ai @plan_s1 (ai @plan_s2 (ai @plan_s3 (ai @plan_s4 (ai @plan_s5 (ai @plan_nxt (ai @plan_ro (ai @plan_bo (ai @plan_ids (ai @plan_ids2 (ai @plan_upd (ai @plan_u0 (ai @plan_u1 (ai @plan_u2 (ai @plan_u3 (ai @plan_u4 (@plan_u5)))))))))))))))))))))))))))))))
theorem plan_t0a {a : Plan} {v : Int} : .int .i64 v :: List.drop 1 (planC a) = planC { a with id := v } := rfl
theorem plan_t1a {a : Plan} {v : Int} : List.take 1 (planC a) ++ [.int .i64 v] ++ List.drop 2 (planC a) = planC { a with label := v } := rfl
theorem plan_d1 {a : Plan} : partOf (List.drop 1 (planC a)) 0 1 false = .int .i64 a.label := rfl
theorem plan_t2a {a : Plan} {v : Int} : List.take 2 (planC a) ++ [.int .i64 v] ++ List.drop 3 (planC a) = planC { a with frm := v } := rfl
theorem plan_d2 {a : Plan} : partOf (List.drop 2 (planC a)) 0 1 false = .int .i64 a.frm := rfl
theorem plan_t3a {a : Plan} {v : Int} : List.take 3 (planC a) ++ [.int .i64 v] ++ List.drop 4 (planC a) = planC { a with til := v } := rfl
theorem plan_d3 {a : Plan} : partOf (List.drop 3 (planC a)) 0 1 false = .int .i64 a.til := rfl
theorem plan_t4a {a : Plan} {v : Int} : List.take 4 (planC a) ++ [.int .i64 v] ++ List.drop 5 (planC a) = planC { a with mem := v } := rfl
theorem plan_d4 {a : Plan} : partOf (List.drop 4 (planC a)) 0 1 false = .int .i64 a.mem := rfl
theorem plan_t5a {a : Plan} {v : Int} : List.take 5 (planC a) ++ [.int .i64 v] ++ [] = planC { a with cores := v } := rfl
theorem plan_t5b {a : Plan} {v : Int} : List.take 5 (planC a) ++ [.int .i64 v] = planC { a with cores := v } := rfl
theorem plan_d5 {a : Plan} : partOf (List.drop 5 (planC a)) 0 1 false = .int .i64 a.cores := rfl
theorem plan_e4 {a : Plan} : partOf (List.drop 4 (planC a)) 0 1 false = .int .i64 a.mem := rfl
theorem plan_e5 {a : Plan} : partOf (List.drop 4 (planC a)) 1 1 false = .int .i64 a.cores := rfl
set_option linter.defProp false in
def planT := ai @plan_t0a (ai @plan_t1a (ai @plan_t2a (ai @plan_t3a (ai @plan_t4a (ai @plan_t5a (@plan_t5b))))))
set_option linter.defProp false in
def planD := ai @plan_d1 (ai @plan_d2 (ai @plan_d3 (ai @plan_d4 (ai @plan_d5 (ai @plan_e4 (@plan_e5))))))

/-- Where the first is that p says yes to; -1: none. -/
def idxI {α : Type} (p : α → Bool) (l : List α) : Int := if l.any p then (l.findIdx p : Nat) else -1

theorem idx_at {α : Type} {p : α → Bool} {l : List α} {i : Nat} (hi : i < l.length) (hn : ∀ j, (h : j < i) → p (l[j]'(by omega)) = false) (hp : p (l[i]'hi) = true) : idxI p l = (i : Int) := by
  unfold idxI
  have : l.any p = true := List.any_eq_true.2 ⟨_, List.getElem_mem hi, hp⟩
  rw [if_pos this]
  congr 1
  exact (List.findIdx_eq hi).2 ⟨hp, fun j hj => hn j hj⟩
theorem idx_no {α : Type} {p : α → Bool} {l : List α} (hn : ∀ j, (h : j < l.length) → p l[j] = false) : idxI p l = -1 := by
  unfold idxI
  have : l.any p = false := by
    rw [List.any_eq_false]
    intro x hx
    obtain ⟨j, hj, rfl⟩ := List.getElem_of_mem hx
    rw [hn j hj]
    simp
  rw [this]
  rfl

theorem idx_cases {α : Type} (p : α → Bool) (l : List α) : (idxI p l = -1 ∧ ∀ x ∈ l, p x = false) ∨ ∃ i : Nat, ∃ h : i < l.length, idxI p l = (i : Int) ∧ p l[i] = true ∧ ∀ j, (hj : j < i) → p (l[j]'(by omega)) = false := by
  unfold idxI
  cases h : l.any p
  · rw [List.any_eq_false] at h
    exact .inl ⟨rfl, fun x hx => by simpa using h x hx⟩
  · have hi : l.findIdx p < l.length := by
      rw [List.findIdx_lt_length]
      obtain ⟨x, hx, hp⟩ := List.any_eq_true.1 h
      exact ⟨x, hx, hp⟩
    refine .inr ⟨l.findIdx p, hi, rfl, List.findIdx_getElem (w := hi), fun j hj => ?_⟩
    have := List.not_of_lt_findIdx hj
    simpa using this


end Go.Proofs.Ytceifhcjbmodaaa
