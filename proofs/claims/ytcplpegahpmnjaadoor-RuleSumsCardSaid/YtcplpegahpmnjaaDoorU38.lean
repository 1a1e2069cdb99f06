/- What functions of the program compute. No condition. -/
import Derived.Test.YtcplpegahpmnjaaDoorU37
set_option linter.unusedSimpArgs false
set_option linter.unusedVariables false
namespace Go.Proofs.YtcplpegahpmnjaaDoor
open Go Go.Ab
theorem labs_ok (shape : Int) : LabOk (labsOf shape) := by
  have w1 := win_rng (IntKind.i64.wrap (shape.tdiv 5)) 2 (by omega)
  unfold labsOf
  generalize win (IntKind.i64.wrap (shape.tdiv 5)) 2 = x1 at w1
  rcases (by omega : x1 = 0 ∨ x1 = 1) with rfl | rfl
  · exact ⟨rfl, by decide, by decide, by decide, by decide⟩
  · exact ⟨rfl, by decide, by decide, by decide, by decide⟩
set_option maxRecDepth 20000 in
set_option maxHeartbeats 16000000 in
theorem sums_law (shape : Int) (ns : List Int) (hns : ns.length < 2 ^ 63) (a b : Int) : ACall Tryd.prog 3 [.int .i64 shape, .sl false 1 (ns.map I64), .int .i64 a, .int .i64 b] [] fun y _ => y = .bool true := by
  refine acall_of isd3 (by simp) ?_
  unfold cd3
  simp -implicitDefEqProofs (maxSteps := 500000) (disch := first | decide | omega) only [↓preS, allS, decS, simprocAttr]
  refine acK_of (FCall.of (lent := false) (known_ok) (.refl rfl) rfl (by simp)) ?_
  simp -implicitDefEqProofs (maxSteps := 500000) (disch := first | decide | omega) only [↓preS, allS, decS, simprocAttr]
  by_cases h30 : ns.length > 30
  · simp -implicitDefEqProofs (maxSteps := 500000) (disch := first | decide | omega) only [↓preS, allS, decS, simprocAttr]
  simp -implicitDefEqProofs (maxSteps := 500000) (disch := first | decide | omega) only [↓preS, allS, decS, simprocAttr]
  refine (good_raw shape ns (by omega)).to ?_
  rintro y G ⟨r, us, cs, hg, rfl, rfl⟩
  have hs := good_shares hg
  have hlab := labs_len shape
  have hlo := labs_ok shape
  have w5 := win_rng shape 5 (by omega)
  have ht : treeOf shape = tree0 ∨ treeOf shape = tree1 ∨ treeOf shape = tree2 ∨ treeOf shape = tree3 ∨ treeOf shape = tree4 := by
    unfold treeOf
    rcases (by omega : win shape 5 = 0 ∨ win shape 5 = 1 ∨ win shape 5 = 2 ∨ win shape 5 = 3 ∨ win shape 5 = 4) with hw | hw | hw | hw | hw <;> rw [hw] <;> simp [trees]
  generalize treeOf shape = t at hg hs ht
  generalize labsOf shape = labs at hg hs hlab hlo
  rcases ht with rfl | rfl | rfl | rfl | rfl
  · have hH : GoodH tree0.length tree0 labs r us cs = [.box [.sl false 1 (labs.map AV.str), .own 2 3 0 1], .box [.sl false 1 (labs.map AV.str), .own 2 3 0 1], .box ([.str (psT tree0 0), .own 3 2 0 labs.length, .int .i64 (us 0)] ++ List.replicate r AV.any), .arr 2 ((cs 0).map CAP)] := rfl
    have hl : tree0.length = 1 := rfl
    rw [hH, hl]
    simp -implicitDefEqProofs (maxSteps := 500000) (disch := first | decide | omega) only [↓preS, allS, decS, simprocAttr, fillOk, fillAV]
    exact sums_0 labs hlab hlo r us cs hg hs a b
  · have hH : GoodH tree1.length tree1 labs r us cs = [.box [.sl false 1 (labs.map AV.str), .own 2 3 0 3], .box [.sl false 1 (labs.map AV.str), .own 2 3 0 3], .box ([.str (psT tree1 0), .own 3 2 0 labs.length, .int .i64 (us 0), .str (psT tree1 1), .own 4 2 0 labs.length, .int .i64 (us 1), .str (psT tree1 2), .own 5 2 0 labs.length, .int .i64 (us 2)] ++ List.replicate r AV.any), .arr 2 ((cs 0).map CAP), .arr 2 ((cs 1).map CAP), .arr 2 ((cs 2).map CAP)] := rfl
    have hl : tree1.length = 3 := rfl
    rw [hH, hl]
    simp -implicitDefEqProofs (maxSteps := 500000) (disch := first | decide | omega) only [↓preS, allS, decS, simprocAttr, fillOk, fillAV]
    exact sums_1 labs hlab hlo r us cs hg hs a b
  · have hH : GoodH tree2.length tree2 labs r us cs = [.box [.sl false 1 (labs.map AV.str), .own 2 3 0 5], .box [.sl false 1 (labs.map AV.str), .own 2 3 0 5], .box ([.str (psT tree2 0), .own 3 2 0 labs.length, .int .i64 (us 0), .str (psT tree2 1), .own 4 2 0 labs.length, .int .i64 (us 1), .str (psT tree2 2), .own 5 2 0 labs.length, .int .i64 (us 2), .str (psT tree2 3), .own 6 2 0 labs.length, .int .i64 (us 3), .str (psT tree2 4), .own 7 2 0 labs.length, .int .i64 (us 4)] ++ List.replicate r AV.any), .arr 2 ((cs 0).map CAP), .arr 2 ((cs 1).map CAP), .arr 2 ((cs 2).map CAP), .arr 2 ((cs 3).map CAP), .arr 2 ((cs 4).map CAP)] := rfl
    have hl : tree2.length = 5 := rfl
    rw [hH, hl]
    simp -implicitDefEqProofs (maxSteps := 500000) (disch := first | decide | omega) only [↓preS, allS, decS, simprocAttr, fillOk, fillAV]
    exact sums_2 labs hlab hlo r us cs hg hs a b
  · have hH : GoodH tree3.length tree3 labs r us cs = [.box [.sl false 1 (labs.map AV.str), .own 2 3 0 7], .box [.sl false 1 (labs.map AV.str), .own 2 3 0 7], .box ([.str (psT tree3 0), .own 3 2 0 labs.length, .int .i64 (us 0), .str (psT tree3 1), .own 4 2 0 labs.length, .int .i64 (us 1), .str (psT tree3 2), .own 5 2 0 labs.length, .int .i64 (us 2), .str (psT tree3 3), .own 6 2 0 labs.length, .int .i64 (us 3), .str (psT tree3 4), .own 7 2 0 labs.length, .int .i64 (us 4), .str (psT tree3 5), .own 8 2 0 labs.length, .int .i64 (us 5), .str (psT tree3 6), .own 9 2 0 labs.length, .int .i64 (us 6)] ++ List.replicate r AV.any), .arr 2 ((cs 0).map CAP), .arr 2 ((cs 1).map CAP), .arr 2 ((cs 2).map CAP), .arr 2 ((cs 3).map CAP), .arr 2 ((cs 4).map CAP), .arr 2 ((cs 5).map CAP), .arr 2 ((cs 6).map CAP)] := rfl
    have hl : tree3.length = 7 := rfl
    rw [hH, hl]
    simp -implicitDefEqProofs (maxSteps := 500000) (disch := first | decide | omega) only [↓preS, allS, decS, simprocAttr, fillOk, fillAV]
    exact sums_3 labs hlab hlo r us cs hg hs a b
  · have hH : GoodH tree4.length tree4 labs r us cs = [.box [.sl false 1 (labs.map AV.str), .own 2 3 0 2], .box [.sl false 1 (labs.map AV.str), .own 2 3 0 2], .box ([.str (psT tree4 0), .own 3 2 0 labs.length, .int .i64 (us 0), .str (psT tree4 1), .own 4 2 0 labs.length, .int .i64 (us 1)] ++ List.replicate r AV.any), .arr 2 ((cs 0).map CAP), .arr 2 ((cs 1).map CAP)] := rfl
    have hl : tree4.length = 2 := rfl
    rw [hH, hl]
    simp -implicitDefEqProofs (maxSteps := 500000) (disch := first | decide | omega) only [↓preS, allS, decS, simprocAttr, fillOk, fillAV]
    exact sums_4 labs hlab hlo r us cs hg hs a b
end Go.Proofs.YtcplpegahpmnjaaDoor
