/- What functions of the program compute. No condition. -/
import Derived.Test.YtceifhcjbmodaaaP15
import Derived.Test.YtceifhcjbmodaaaL4
import Derived.Test.YtceifhcjbmodaaaRows
import Derived.KernelRfl
import Derived.ProofKit
import Derived.JoinedTies
set_option linter.unusedVariables false
namespace Go.Proofs.Ytceifhcjbmodaaa.appsMany
open Go Go.Ab Go.RowKit

theorem own : ownKnob Try.prog.godebug = none := by kernel_rfl
theorem fits : laidOutB Try.prog = true := by kernel_rfl

theorem answers : ∀ (H : Type) (ds : List (DataW H)), ds.length = Try.f4.params.toList.length → Rows.appsManySpec.fn H ds = ⟨[.lit (.bool true)], ds, []⟩ := by
  intro H ds h
  rw [Try.params4] at h
  match ds, h with
  | [d0, d1, d2], _ => rfl

set_option maxRecDepth 100000 in
theorem lifted (os : Os) (started : os.Started) (H : Type) (enc : TypeId × Value → H) :
    ReturnsInHanded {} Try.checked os 4 .any (Rows.appsManySpec.pre6 enc Try.prog Try.f4 Rows.appsManyRow.domain false) (Rows.appsManySpec.post enc Try.prog Try.f4 false true false false) := by
  refine returnsInHanded_of_change (C := Try.checked) own started (by kernel_rfl) Try.func4
    (ChangeSpec.witness6 (enc := enc) (C := Try.checked) false ⟨#[], #[.int .i64 0, .slice none 0 0, .int .i64 0], []⟩ 8 (by kernel_rfl) (by kernel_rfl) (by kernel_rfl) (by kernel_rfl)) ?_
  intro W base args ds gs before hval hW _ _
  have hR := (readsA_cons (reads_i64 Try.underlying3) (.inl ⟨by kernel_rfl, fun _ => rfl⟩) (readsA_cons (reads_ints Try.underlying41 Try.underlying3 (by kernel_rfl)) (.inl ⟨by kernel_rfl, fun _ => rfl⟩) (readsA_cons (reads_i64 Try.underlying3) (.inl ⟨by kernel_rfl, fun _ => rfl⟩) readsA_nil)))
  exact law_step (fn := Try.f4) (tb := 4) (by rw [Try.params4]) hR rfl answers (by kernel_rfl) Try.underlying4 fits (by kernel_rfl) (fun a h => many_law a.1 a.2.1 h.2.1.2 a.2.2.1) hval hW

theorem over : Rows.appsManyRow.holds Try.pinned (OpenSpec.ofChange Rows.appsManySpec) :=
  OpenClaim.holds_of_wide 4 Try.f4 rfl rfl rfl rfl rfl rfl rfl ⟨rfl, rfl, rfl, rfl, rfl⟩ rfl rfl rfl rfl rfl (by kernel_rfl) Try.func4 (by kernel_rfl)
    (of_decide_eq_true (by kernel_rfl)) (by unfold Func.isWrapper; first | (rw [if_pos (by decide +kernel)]; kernel_rfl) | (rw [if_neg (by decide +kernel)]; exact ⟨rfl, rfl⟩))
    (fun os started H enc _ => lifted os started H enc)

/-- The statement. -/
theorem proved : Rows.AppsManySaid := over
end Go.Proofs.Ytceifhcjbmodaaa.appsMany
