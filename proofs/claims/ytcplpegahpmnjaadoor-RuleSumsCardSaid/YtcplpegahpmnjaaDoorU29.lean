/- What functions of the program compute. No condition. -/
import Derived.Test.YtcplpegahpmnjaaDoorU28
set_option linter.unusedSimpArgs false
set_option linter.unusedVariables false
namespace Go.Proofs.YtcplpegahpmnjaaDoor
open Go Go.Ab
def rowG (pl : List (List UInt8)) (us : Nat → Int) (cs : Nat → List Cap) (q : Nat) : Queue := ⟨psT pl q, cs q, us q⟩
structure GoodG (pl : List (List UInt8)) (n nl : Nat) (us : Nat → Int) (cs : Nat → List Cap) : Prop where
  usr : ∀ q, q < n → 1 ≤ us q ∧ us q ≤ 1000000
  len : ∀ q, q < n → (cs q).length = nl
  il : ∃ cs0 : Nat → List Cap, (∀ q, q < n → cs0 q = List.replicate nl W0) ∧ Il (psT pl) n (fun i => kidsX (pl.getD i default) ((List.range n).map fun j => ⟨psT pl j, .any, us j⟩)) nl cs0 pl.length cs
def trees : List (List (List UInt8)) := [tree0, tree1, tree2, tree3, tree4]
def treeOf (shape : Int) : List (List UInt8) := trees.getD (win shape 5).toNat default
def labsOf (shape : Int) : List (List UInt8) := [[], [103, 112, 117]].take (1 + win (IntKind.i64.wrap (shape.tdiv 5)) 2).toNat
theorem labs_len (shape : Int) : (labsOf shape).length = 1 ∨ (labsOf shape).length = 2 := by
  have w1 := win_rng (IntKind.i64.wrap (shape.tdiv 5)) 2 (by omega)
  unfold labsOf
  generalize win (IntKind.i64.wrap (shape.tdiv 5)) 2 = x1 at w1
  rcases (by omega : x1 = 0 ∨ x1 = 1) with rfl | rfl
  · exact .inl rfl
  · exact .inr rfl
def GoodH (n : Nat) (pl : List (List UInt8)) (labs : List (List UInt8)) (r : Nat) (us : Nat → Int) (cs : Nat → List Cap) : List AO :=
  [.box [.sl false 1 (labs.map AV.str), .own 2 3 0 n], .box [.sl false 1 (labs.map AV.str), .own 2 3 0 n], .box (((List.range n).flatMap fun q => [.str (psT pl q), .own (3 + q) 2 0 labs.length, .int .i64 (us q)]) ++ List.replicate r AV.any)] ++ (List.range n).map fun q => .arr 2 ((cs q).map CAP)
set_option maxRecDepth 20000 in
set_option maxHeartbeats 16000000 in
theorem good_raw (shape : Int) (ns : List Int) (hns : ns.length < 2 ^ 62) : ACall Tryd.prog 10 [.int .i64 shape, .sl false 1 (ns.map I64)] [] fun y G =>
    ∃ (r : Nat) (us : Nat → Int) (cs : Nat → List Cap), GoodG (treeOf shape) (treeOf shape).length (labsOf shape).length us cs ∧ y = .agg [.sl false 1 ((labsOf shape).map AV.str), .own 2 3 0 (treeOf shape).length] ∧ G = GoodH (treeOf shape).length (treeOf shape) (labsOf shape) r us cs := by
  have w5 := win_rng shape 5 (by omega)
  have hl := labs_len shape
  refine acallR_of isR10 (by simp) ?_
  unfold cc10
  have c1 := within_ok (IntKind.i64.wrap (shape.tdiv 5)) 2 (by omega) (by omega)
  have w1 := win_rng (IntKind.i64.wrap (shape.tdiv 5)) 2 (by omega)
  have e1 : List.take (1 + win (IntKind.i64.wrap (shape.tdiv 5)) 2).toNat [AV.str [], AV.str [103, 112, 117]] = (labsOf shape).map AV.str := by unfold labsOf; rw [List.map_take]; rfl
  generalize win (IntKind.i64.wrap (shape.tdiv 5)) 2 = x1 at c1 w1 e1
  simp -implicitDefEqProofs (maxSteps := 500000) (disch := first | decide | omega) only [↓preS, allS, decS, simprocAttr, fillOk, fillAV, List.append_nil]
  refine acK_of (FCall.of (lent := false) (c1) (.refl rfl) rfl (by simp)) ?_
  simp -implicitDefEqProofs (maxSteps := 500000) (disch := first | decide | omega) only [↓preS, allS, decS, simprocAttr, fillOk, fillAV, List.append_nil]
  refine ⟨by omega, by omega, by omega, ?_⟩
  rw [e1]
  generalize labsOf shape = labs at hl
  rcases (by omega : win shape 5 = 0 ∨ win shape 5 = 1 ∨ win shape 5 = 2 ∨ win shape 5 = 3 ∨ win shape 5 = 4) with hw | hw | hw | hw | hw
  · have ht : treeOf shape = tree0 := by unfold treeOf; rw [hw]; rfl
    rw [ht]
    refine good32_0 shape ns hns labs labs.length rfl hl hw _ fun r us cs0 cs h1 h2 h3 => ?_
    exact ⟨r, us, cs, ⟨fun q hq => (h1 q hq).2, h2, cs0, fun q hq => (h1 q hq).1, h3⟩, rfl, rfl⟩
  · have ht : treeOf shape = tree1 := by unfold treeOf; rw [hw]; rfl
    rw [ht]
    refine good32_1 shape ns hns labs labs.length rfl hl hw _ fun r us cs0 cs h1 h2 h3 => ?_
    exact ⟨r, us, cs, ⟨fun q hq => (h1 q hq).2, h2, cs0, fun q hq => (h1 q hq).1, h3⟩, rfl, rfl⟩
  · have ht : treeOf shape = tree2 := by unfold treeOf; rw [hw]; rfl
    rw [ht]
    refine good32_2 shape ns hns labs labs.length rfl hl hw _ fun r us cs0 cs h1 h2 h3 => ?_
    exact ⟨r, us, cs, ⟨fun q hq => (h1 q hq).2, h2, cs0, fun q hq => (h1 q hq).1, h3⟩, rfl, rfl⟩
  · have ht : treeOf shape = tree3 := by unfold treeOf; rw [hw]; rfl
    rw [ht]
    refine good32_3 shape ns hns labs labs.length rfl hl hw _ fun r us cs0 cs h1 h2 h3 => ?_
    exact ⟨r, us, cs, ⟨fun q hq => (h1 q hq).2, h2, cs0, fun q hq => (h1 q hq).1, h3⟩, rfl, rfl⟩
  · have ht : treeOf shape = tree4 := by unfold treeOf; rw [hw]; rfl
    rw [ht]
    refine good32_4 shape ns hns labs labs.length rfl hl hw _ fun r us cs0 cs h1 h2 h3 => ?_
    exact ⟨r, us, cs, ⟨fun q hq => (h1 q hq).2, h2, cs0, fun q hq => (h1 q hq).1, h3⟩, rfl, rfl⟩
def qsG (pl : List (List UInt8)) (n : Nat) (us : Nat → Int) (cs : Nat → List Cap) : List Queue := (List.range n).map (rowG pl us cs)
def nqG (pl : List (List UInt8)) (n : Nat) (us : Nat → Int) (cs : Nat → List Cap) : List NQ := (List.range n).map fun q => ⟨psT pl q, (cs q).map CAP, us q, 3 + q⟩
theorem nq_rows (pl : List (List UInt8)) (n : Nat) (us : Nat → Int) (cs : Nat → List Cap) : rowsS (nqG pl n us cs) = (qsG pl n us cs).map QUE := by
  unfold rowsS nqG qsG
  rw [List.map_map, List.map_map]
  rfl
theorem nq_cells (pl : List (List UInt8)) (n nl : Nat) (us : Nat → Int) (cs : Nat → List Cap) (h : ∀ q, q < n → (cs q).length = nl) : cellsO (nqG pl n us cs) = (List.range n).flatMap fun q => [.str (psT pl q), .own (3 + q) 2 0 nl, .int .i64 (us q)] := by
  unfold cellsO nqG
  rw [List.flatMap_map]
  refine congrArg List.flatten (List.map_congr_left fun q hq => ?_)
  simp only [List.length_map]
  rw [h q (List.mem_range.1 hq)]
theorem nq_get (pl : List (List UInt8)) (n nl r : Nat) (labs : List (List UInt8)) (us : Nat → Int) (cs : Nat → List Cap) : ∀ x ∈ nqG pl n us cs, (GoodH n pl labs r us cs)[x.id]? = some (.arr 2 x.l) ∧ x.id ≠ 2 := by
  intro x hx
  unfold nqG at hx
  obtain ⟨q, hq, rfl⟩ := List.mem_map.1 hx
  have hq := List.mem_range.1 hq
  unfold GoodH
  refine ⟨?_, by simp only; omega⟩
  rw [List.getElem?_append_right (by simp)]
  simp [hq]
theorem nq_nodup (pl : List (List UInt8)) (n : Nat) (us : Nat → Int) (cs : Nat → List Cap) : ((nqG pl n us cs).map NQ.id).Nodup := by
  unfold nqG
  rw [List.map_map]
  refine List.pairwise_map.2 (List.nodup_range.imp fun {a b} h => ?_)
  simp only [Function.comp]
  omega
end Go.Proofs.YtcplpegahpmnjaaDoor
