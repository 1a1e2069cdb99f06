/- What functions of the program compute. No condition. -/
import Derived.Test.YtgpipheibnlkhaaWS3
import Derived.Test.YtgpipheibnlkhaaWR
import Derived.Test.YtgpipheibnlkhaaWR2
import Derived.Test.YtgpipheibnlkhaaL4
import Derived.Test.YtgpipheibnlkhaaRows
import Derived.KernelRfl
import Derived.ProofKit
import Derived.JoinedTies
set_option linter.unusedVariables false
namespace Go.Proofs.Ytgpipheibnlkhaa.wireAnswers
open Go Go.Ab Go.RowKit

theorem own : ownKnob Try.prog.godebug = none := by kernel_rfl
theorem fits : laidOutB Try.prog = true := by kernel_rfl

theorem answers : ∀ (H : Type) (ds : List (DataW H)), ds.length = Try.f8.params.toList.length → Rows.wireAnswersSpec.fn H ds = ⟨[.lit (.bool true)], ds, []⟩ := by
  intro H ds h
  rw [Try.params8] at h
  match ds, h with
  | [d0, d1, d2, d3, d4], _ => rfl

set_option maxRecDepth 100000 in
theorem lifted (os : Os) (started : os.Started) (H : Type) (enc : TypeId × Value → H) :
    ReturnsInHanded {} Try.checked os 8 .any (Rows.wireAnswersSpec.pre6 enc Try.prog Try.f8 Rows.wireAnswersRow.domain false) (Rows.wireAnswersSpec.post enc Try.prog Try.f8 false true false false) := by
  refine returnsInHanded_of_change (C := Try.checked) own started (by kernel_rfl) Try.func8
    (ChangeSpec.witness6 (enc := enc) (C := Try.checked) false ⟨#[], #[.agg #[.int .i64 0, .slice none 0 0, .slice none 0 0, .slice none 0 0, .int .i64 0], .slice none 0 0, .slice none 0 0, .int .i64 0, .slice none 0 0], []⟩ 8 (by kernel_rfl) (by kernel_rfl) (by kernel_rfl) (by kernel_rfl)) ?_
  intro W base args ds gs before hval hW _ _
  have hR := (readsA_cons (rdOut) (.inr ⟨by kernel_rfl, fun a => ⟨_, rfl, fun y hy => List.all_eq_true.1 (outC_one a) y hy⟩⟩) (readsA_cons (reads_ints Try.underlying27 Try.underlying3 (by kernel_rfl)) (.inl ⟨by kernel_rfl, fun _ => rfl⟩) (readsA_cons (reads_bytes Try.underlying37 Try.underlying5 (by kernel_rfl)) (.inl ⟨by kernel_rfl, fun _ => rfl⟩) (readsA_cons (reads_i64 Try.underlying3) (.inl ⟨by kernel_rfl, fun _ => rfl⟩) (readsA_cons (reads_bytes Try.underlying37 Try.underlying5 (by kernel_rfl)) (.inl ⟨by kernel_rfl, fun _ => rfl⟩) readsA_nil)))))
  exact law_step (fn := Try.f8) (tb := 4) (by rw [Try.params8]) hR rfl answers (by kernel_rfl) Try.underlying4 fits (by kernel_rfl) (fun a h => answers_law a.1 a.2.1 a.2.2.1 a.2.2.2.1 a.2.2.2.2.1 h.2.2.2.2.1) hval hW

theorem over : Rows.wireAnswersRow.holds Try.pinned (OpenSpec.ofChange Rows.wireAnswersSpec) :=
  OpenClaim.holds_of_wide 8 Try.f8 rfl rfl rfl rfl rfl rfl rfl ⟨rfl, rfl, rfl, rfl, rfl⟩ rfl rfl rfl rfl rfl (by kernel_rfl) Try.func8 (by kernel_rfl)
    (of_decide_eq_true (by kernel_rfl)) (by unfold Func.isWrapper; first | (rw [if_pos (by decide +kernel)]; kernel_rfl) | (rw [if_neg (by decide +kernel)]; exact ⟨rfl, rfl⟩))
    (fun os started H enc _ => lifted os started H enc)

/-- The statement. -/
theorem proved : Rows.WireAnswersSaid := over
end Go.Proofs.Ytgpipheibnlkhaa.wireAnswers
