/- What functions of the program compute. No condition. -/
import Derived.Test.YtdknamiaadonlaaF8
import Derived.Test.YtdknamiaadonlaaL4
import Derived.Test.YtdknamiaadonlaaRows
import Derived.KernelRfl
import Derived.ProofKit
import Derived.JoinedTies
set_option linter.unusedVariables false
namespace Go.Proofs.Ytdknamiaadonlaa.framesLong
open Go Go.Ab Go.RowKit

theorem own : ownKnob Try.prog.godebug = none := by kernel_rfl
theorem fits : laidOutB Try.prog = true := by kernel_rfl

theorem answers : ∀ (H : Type) (ds : List (DataW H)), ds.length = Try.f8.params.toList.length → Rows.framesLongSpec.fn H ds = ⟨[.lit (.bool true)], ds, []⟩ := by
  intro H ds h
  rw [Try.params8] at h
  match ds, h with
  | [d0, d1], _ => rfl

set_option maxRecDepth 100000 in
theorem lifted (os : Os) (started : os.Started) (H : Type) (enc : TypeId × Value → H) :
    ReturnsInHanded {} Try.checked os 8 .any (Rows.framesLongSpec.pre6 enc Try.prog Try.f8 Rows.framesLongRow.domain false) (Rows.framesLongSpec.post enc Try.prog Try.f8 false true false false) := by
  refine returnsInHanded_of_change (C := Try.checked) own started (by kernel_rfl) Try.func8
    (ChangeSpec.witness6 (enc := enc) (C := Try.checked) false ⟨#[], #[.int .i64 0, .int .u8 0], []⟩ 8 (by kernel_rfl) (by kernel_rfl) (by kernel_rfl) (by kernel_rfl)) ?_
  intro W base args ds gs before hval hW _ _
  have hR := (readsA_cons (reads_i64 Try.underlying3) (.inl ⟨by kernel_rfl, fun _ => rfl⟩) (readsA_cons (reads_u8 Try.underlying5) (.inl ⟨by kernel_rfl, fun _ => rfl⟩) readsA_nil))
  exact law_step (fn := Try.f8) (tb := 4) (by rw [Try.params8]) hR rfl answers (by kernel_rfl) Try.underlying4 fits (by kernel_rfl) (fun a h => long_law a.1 (a.2.1.toNat : Int) h.1.1 h.1.2 ⟨by omega, by have := a.2.1.toNat_lt; omega⟩) hval hW

theorem over : Rows.framesLongRow.holds Try.pinned (OpenSpec.ofChange Rows.framesLongSpec) :=
  OpenClaim.holds_of_wide 8 Try.f8 rfl rfl rfl rfl rfl rfl rfl ⟨rfl, rfl, rfl, rfl, rfl⟩ rfl rfl rfl rfl rfl (by kernel_rfl) Try.func8 (by kernel_rfl)
    (of_decide_eq_true (by kernel_rfl)) (by unfold Func.isWrapper; first | (rw [if_pos (by decide +kernel)]; kernel_rfl) | (rw [if_neg (by decide +kernel)]; exact ⟨rfl, rfl⟩))
    (fun os started H enc _ => lifted os started H enc)

/-- The statement. -/
theorem proved : Rows.FramesLongSaid := over
end Go.Proofs.Ytdknamiaadonlaa.framesLong
