/- What functions of the program compute. No condition. -/
import Derived.Test.YtlgdinihbomlpaaN1
import Derived.Test.YtlgdinihbomlpaaL4
import Derived.KernelRfl
set_option linter.unusedSimpArgs false
set_option linter.unusedVariables false
set_option maxRecDepth 20000
namespace Go.Proofs.Ytlgdinihbomlpaa
open Go Go.Ab

structure Node.Ok (x : Node) : Prop where
  id : okI x.id
  label : okI x.label
  rack : okI x.rack
  mem : okI x.mem
  cores : okI x.cores
  seen : okI x.seen
  beat : okI x.beat
theorem rdNode : Reads Try.prog 44 NODE Node.Ok :=
  Reads.map (reads_struct Try.underlying44 (readsF_cons (z := 1) rfl (by kernel_rfl) (reads_i64 Try.underlying3) (fun _ _ => rfl) (readsF_cons (z := 1) rfl (by kernel_rfl) (reads_i64 Try.underlying3) (fun _ _ => rfl) (readsF_cons (z := 1) rfl (by kernel_rfl) (reads_i64 Try.underlying3) (fun _ _ => rfl) (readsF_cons (z := 2) rfl (by kernel_rfl) (reads_struct Try.underlying42 (readsF_cons (z := 1) rfl (by kernel_rfl) (reads_i64 Try.underlying3) (fun _ _ => rfl) (readsF_cons (z := 1) rfl (by kernel_rfl) (reads_i64 Try.underlying3) (fun _ _ => rfl) readsF_nil)) (fun _ _ => rfl)) (fun _ _ => rfl) (readsF_cons (z := 1) rfl (by kernel_rfl) (reads_i64 Try.underlying3) (fun _ _ => rfl) (readsF_cons (z := 1) rfl (by kernel_rfl) (reads_i64 Try.underlying3) (fun _ _ => rfl) (readsF_cons (z := 1) rfl (by kernel_rfl) (reads_bool Try.underlying4) (fun _ _ => rfl) readsF_nil))))))) (fun _ _ => rfl)) (fun a => Node.mk a.1 a.2.1 a.2.2.1 a.2.2.2.1.1 a.2.2.2.1.2.1 a.2.2.2.2.1 a.2.2.2.2.2.1 a.2.2.2.2.2.2.1) fun a h => ⟨rfl, ⟨h.1, h.2.1, h.2.2.1, h.2.2.2.1.1, h.2.2.2.1.2.1, h.2.2.2.2.1, h.2.2.2.2.2.1⟩⟩
end Go.Proofs.Ytlgdinihbomlpaa
