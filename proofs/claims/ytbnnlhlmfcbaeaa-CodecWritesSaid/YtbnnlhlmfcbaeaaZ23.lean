/- What functions of the program compute. No condition. -/
import Derived.Test.YtbnnlhlmfcbaeaaK2
import Derived.Test.YtbnnlhlmfcbaeaaL4
import Derived.Test.YtbnnlhlmfcbaeaaRows
import Derived.KernelRfl
import Derived.ProofKit
import Derived.JoinedTies
set_option linter.unusedVariables false
namespace Go.Proofs.Ytbnnlhlmfcbaeaa.codecWrites
open Go Go.Ab Go.RowKit
theorem own : ownKnob Try.prog.godebug = none := by kernel_rfl
theorem fits : laidOutB Try.prog = true := by kernel_rfl
theorem answers : ∀ (H : Type) (ds : List (DataW H)), ds.length = Try.f3.params.toList.length → Rows.codecWritesSpec.fn H ds = ⟨[.lit (.bool true)], ds, []⟩ := by
  intro H ds h
  rw [Try.params3] at h
  match ds, h with
  | [d0, d1, d2, d3], _ => rfl
set_option maxRecDepth 100000 in
theorem lifted (os : Os) (started : os.Started) (H : Type) (enc : TypeId × Value → H) :
    ReturnsInHanded {} Try.checked os 3 .any (Rows.codecWritesSpec.pre6 enc Try.prog Try.f3 Rows.codecWritesRow.domain false) (Rows.codecWritesSpec.post enc Try.prog Try.f3 false true false false) := by
  refine returnsInHanded_of_change (C := Try.checked) own started (by kernel_rfl) Try.func3
    (ChangeSpec.witness6 (enc := enc) (C := Try.checked) false ⟨#[], #[.slice none 0 0, .int .i64 0, .string ByteArray.empty, .slice none 0 0], []⟩ 8 (by kernel_rfl) (by kernel_rfl) (by kernel_rfl) (by kernel_rfl)) ?_
  intro W base args ds gs before hval hW _ _
  have hR := (readsA_cons (reads_bytes Try.underlying22 Try.underlying5 (by kernel_rfl)) (.inl ⟨by kernel_rfl, fun _ => rfl⟩) (readsA_cons (reads_i64 Try.underlying3) (.inl ⟨by kernel_rfl, fun _ => rfl⟩) (readsA_cons (reads_text Try.underlying9) (.inl ⟨by kernel_rfl, fun _ => rfl⟩) (readsA_cons (reads_ints Try.underlying23 Try.underlying3 (by kernel_rfl)) (.inl ⟨by kernel_rfl, fun _ => rfl⟩) readsA_nil))))
  exact law_step (fn := Try.f3) (tb := 4) (by rw [Try.params3]) hR rfl answers (by kernel_rfl) Try.underlying4 fits (by kernel_rfl) (fun a h => writes_law a.1 h.1 a.2.1 a.2.2.1 h.2.2.1 a.2.2.2.1 h.2.2.2.1.2) hval hW
theorem over : Rows.codecWritesRow.holds Try.pinned (OpenSpec.ofChange Rows.codecWritesSpec) :=
  OpenClaim.holds_of_wide 3 Try.f3 rfl rfl rfl rfl rfl rfl rfl ⟨rfl, rfl, rfl, rfl, rfl⟩ rfl rfl rfl rfl rfl (by kernel_rfl) Try.func3 (by kernel_rfl)
    (of_decide_eq_true (by kernel_rfl)) (by unfold Func.isWrapper; first | (rw [if_pos (by decide +kernel)]; kernel_rfl) | (rw [if_neg (by decide +kernel)]; exact ⟨rfl, rfl⟩))
    (fun os started H enc _ => lifted os started H enc)
theorem proved : Rows.CodecWritesSaid := over
end Go.Proofs.Ytbnnlhlmfcbaeaa.codecWrites
