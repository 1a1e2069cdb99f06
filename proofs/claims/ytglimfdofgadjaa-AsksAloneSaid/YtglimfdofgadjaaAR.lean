/- What functions of the program compute. No condition. -/
import Derived.Test.YtglimfdofgadjaaA1
import Derived.Test.YtglimfdofgadjaaL4
import Derived.KernelRfl
set_option linter.unusedSimpArgs false
set_option linter.unusedVariables false
set_option maxRecDepth 20000
namespace Go.Proofs.Ytglimfdofgadjaa
open Go Go.Ab

structure Ask.Ok (x : Ask) : Prop where
  prio : okI x.prio
  label : okI x.label
  mem : okI x.mem
  cores : okI x.cores
  count : okI x.count
  node : okI x.node
  rack : okI x.rack
  missed : okI x.missed
theorem rdAsk : Reads Try.prog 27 ASK Ask.Ok :=
  Reads.map (reads_struct Try.underlying27 (readsF_cons (z := 1) rfl (by kernel_rfl) (reads_i64 Try.underlying3) (fun _ _ => rfl) (readsF_cons (z := 1) rfl (by kernel_rfl) (reads_i64 Try.underlying3) (fun _ _ => rfl) (readsF_cons (z := 2) rfl (by kernel_rfl) (reads_struct Try.underlying25 (readsF_cons (z := 1) rfl (by kernel_rfl) (reads_i64 Try.underlying3) (fun _ _ => rfl) (readsF_cons (z := 1) rfl (by kernel_rfl) (reads_i64 Try.underlying3) (fun _ _ => rfl) readsF_nil)) (fun _ _ => rfl)) (fun _ _ => rfl) (readsF_cons (z := 1) rfl (by kernel_rfl) (reads_i64 Try.underlying3) (fun _ _ => rfl) (readsF_cons (z := 1) rfl (by kernel_rfl) (reads_i64 Try.underlying3) (fun _ _ => rfl) (readsF_cons (z := 1) rfl (by kernel_rfl) (reads_i64 Try.underlying3) (fun _ _ => rfl) (readsF_cons (z := 1) rfl (by kernel_rfl) (reads_i64 Try.underlying3) (fun _ _ => rfl) readsF_nil))))))) (fun _ _ => rfl)) (fun a => Ask.mk a.1 a.2.1 a.2.2.1.1 a.2.2.1.2.1 a.2.2.2.1 a.2.2.2.2.1 a.2.2.2.2.2.1 a.2.2.2.2.2.2.1) fun a h => ⟨rfl, ⟨h.1, h.2.1, h.2.2.1.1, h.2.2.1.2.1, h.2.2.2.1, h.2.2.2.2.1, h.2.2.2.2.2.1, h.2.2.2.2.2.2.1⟩⟩
end Go.Proofs.Ytglimfdofgadjaa
