/- What functions of the program compute. No condition. -/
import Derived.Test.YtgpipheibnlkhaaWO
import Derived.Test.YtgpipheibnlkhaaWR
import Derived.Test.YtgpipheibnlkhaaWE
set_option linter.unusedSimpArgs false
set_option linter.unusedVariables false
set_option maxRecDepth 20000
namespace Go.Proofs.Ytgpipheibnlkhaa
open Go Go.Ab

structure Cont.Ok (x : Cont) : Prop where
  id : okI x.id
  app : okI x.app
  node : okI x.node
  mem : okI x.mem
  cores : okI x.cores
  prio : okI x.prio
  label : okI x.label
  notice : okI x.notice
theorem rdCont : Reads Try.prog 78 CONT Cont.Ok :=
  Reads.map (reads_struct Try.underlying78 (readsF_cons (z := 1) rfl (by kernel_rfl) (reads_i64 Try.underlying3) (fun _ _ => rfl) (readsF_cons (z := 1) rfl (by kernel_rfl) (reads_i64 Try.underlying3) (fun _ _ => rfl) (readsF_cons (z := 1) rfl (by kernel_rfl) (reads_i64 Try.underlying3) (fun _ _ => rfl) (readsF_cons (z := 2) rfl (by kernel_rfl) (reads_struct Try.underlying23 (readsF_cons (z := 1) rfl (by kernel_rfl) (reads_i64 Try.underlying3) (fun _ _ => rfl) (readsF_cons (z := 1) rfl (by kernel_rfl) (reads_i64 Try.underlying3) (fun _ _ => rfl) readsF_nil)) (fun _ _ => rfl)) (fun _ _ => rfl) (readsF_cons (z := 1) rfl (by kernel_rfl) (reads_i64 Try.underlying3) (fun _ _ => rfl) (readsF_cons (z := 1) rfl (by kernel_rfl) (reads_i64 Try.underlying3) (fun _ _ => rfl) (readsF_cons (z := 1) rfl (by kernel_rfl) (reads_bool Try.underlying4) (fun _ _ => rfl) (readsF_cons (z := 1) rfl (by kernel_rfl) (reads_i64 Try.underlying3) (fun _ _ => rfl) readsF_nil)))))))) (fun _ _ => rfl)) (fun a => Cont.mk a.1 a.2.1 a.2.2.1 a.2.2.2.1.1 a.2.2.2.1.2.1 a.2.2.2.2.1 a.2.2.2.2.2.1 a.2.2.2.2.2.2.1 a.2.2.2.2.2.2.2.1) fun a h => ⟨rfl, ⟨h.1, h.2.1, h.2.2.1, h.2.2.2.1.1, h.2.2.2.1.2.1, h.2.2.2.2.1, h.2.2.2.2.2.1, h.2.2.2.2.2.2.2.1⟩⟩

structure Out.Ok (x : Out) : Prop where
  err : okI x.err
  conts : okL Cont.Ok x.conts
  ids : okL okI x.ids
  gone : okL okI x.gone
  n : okI x.n
theorem rdOut : Reads Try.prog 44 OUT Out.Ok :=
  Reads.map (reads_struct Try.underlying44 (readsF_cons (z := 1) rfl (by kernel_rfl) (reads_i64 Try.underlying38) (fun _ _ => rfl) (readsF_cons (z := 1) rfl (by kernel_rfl) (reads_list (z := 9) Try.underlying42 (by kernel_rfl) (by omega) rdCont (fun _ _ => rfl)) (fun _ _ => rfl) (readsF_cons (z := 1) rfl (by kernel_rfl) (reads_ints Try.underlying27 Try.underlying3 (by kernel_rfl)) (fun _ _ => rfl) (readsF_cons (z := 1) rfl (by kernel_rfl) (reads_ints Try.underlying27 Try.underlying3 (by kernel_rfl)) (fun _ _ => rfl) (readsF_cons (z := 1) rfl (by kernel_rfl) (reads_i64 Try.underlying3) (fun _ _ => rfl) readsF_nil))))) (fun _ _ => rfl)) (fun a => Out.mk a.1 a.2.1 a.2.2.1 a.2.2.2.1 a.2.2.2.2.1) fun a h => ⟨rfl, ⟨h.1, h.2.1, h.2.2.1, h.2.2.2.1, h.2.2.2.2.1⟩⟩

theorem Cont.Ok.rg {c : Cont} (h : c.Ok) : c.Rg := ⟨h.id, h.app, h.node, h.mem, h.cores, h.prio, h.label, h.notice⟩
theorem Out.Ok.rg {o : Out} (h : o.Ok) : o.Rg := ⟨fun c hc => (h.conts.1 c hc).rg, h.ids.1, h.gone.1, h.n⟩
end Go.Proofs.Ytgpipheibnlkhaa
