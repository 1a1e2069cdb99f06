/- What functions of the program compute. No condition. -/
import Derived.Test.YtgpipheibnlkhaaWI
import Derived.Test.YtgpipheibnlkhaaL4
import Derived.KernelRfl
set_option linter.unusedSimpArgs false
set_option linter.unusedVariables false
set_option maxRecDepth 20000
namespace Go.Proofs.Ytgpipheibnlkhaa
open Go Go.Ab

structure Ask.Ok (x : Ask) : Prop where
  prio : okI x.prio
  label : okI x.label
  mem : okI x.mem
  cores : okI x.cores
  count : okI x.count
  node : okI x.node
  rack : okI x.rack
  missed : okI x.missed
theorem rdAsk : Reads Try.prog 75 ASK Ask.Ok :=
  Reads.map (reads_struct Try.underlying75 (readsF_cons (z := 1) rfl (by kernel_rfl) (reads_i64 Try.underlying3) (fun _ _ => rfl) (readsF_cons (z := 1) rfl (by kernel_rfl) (reads_i64 Try.underlying3) (fun _ _ => rfl) (readsF_cons (z := 2) rfl (by kernel_rfl) (reads_struct Try.underlying23 (readsF_cons (z := 1) rfl (by kernel_rfl) (reads_i64 Try.underlying3) (fun _ _ => rfl) (readsF_cons (z := 1) rfl (by kernel_rfl) (reads_i64 Try.underlying3) (fun _ _ => rfl) readsF_nil)) (fun _ _ => rfl)) (fun _ _ => rfl) (readsF_cons (z := 1) rfl (by kernel_rfl) (reads_i64 Try.underlying3) (fun _ _ => rfl) (readsF_cons (z := 1) rfl (by kernel_rfl) (reads_i64 Try.underlying3) (fun _ _ => rfl) (readsF_cons (z := 1) rfl (by kernel_rfl) (reads_i64 Try.underlying3) (fun _ _ => rfl) (readsF_cons (z := 1) rfl (by kernel_rfl) (reads_i64 Try.underlying3) (fun _ _ => rfl) readsF_nil))))))) (fun _ _ => rfl)) (fun a => Ask.mk a.1 a.2.1 a.2.2.1.1 a.2.2.1.2.1 a.2.2.2.1 a.2.2.2.2.1 a.2.2.2.2.2.1 a.2.2.2.2.2.2.1) fun a h => ⟨rfl, ⟨h.1, h.2.1, h.2.2.1.1, h.2.2.1.2.1, h.2.2.2.1, h.2.2.2.2.1, h.2.2.2.2.2.1, h.2.2.2.2.2.2.1⟩⟩

structure Inp.Ok (x : Inp) : Prop where
  kind : okI x.kind
  id : okI x.id
  beat : okI x.beat
  n : okI x.n
  text : x.text.length < 2 ^ 63
  nId : okI x.nId
  nLab : okI x.nLab
  nRack : okI x.nRack
  nMem : okI x.nMem
  nCor : okI x.nCor
  nSeen : okI x.nSeen
  nBeat : okI x.nBeat
  aId : okI x.aId
  aState : okI x.aState
  aQ : x.aQ.length < 2 ^ 63
  aUser : okI x.aUser
  aPrio : okI x.aPrio
  aMem : okI x.aMem
  aCor : okI x.aCor
  aAsks : okL Ask.Ok x.aAsks
  aSeen : okI x.aSeen
  aBeat : okI x.aBeat
  aG : okL okI x.aG
  aK : okL okI x.aK
  aT : okL okI x.aT
  aL : okL okI x.aL
  asks : okL Ask.Ok x.asks
  ids : okL okI x.ids
  pId : okI x.pId
  pLab : okI x.pLab
  pFrom : okI x.pFrom
  pUntil : okI x.pUntil
  pMem : okI x.pMem
  pCor : okI x.pCor
theorem rdInp : Reads Try.prog 33 INP Inp.Ok :=
  Reads.map (reads_struct Try.underlying33 (readsF_cons (z := 1) rfl (by kernel_rfl) (reads_i64 Try.underlying3) (fun _ _ => rfl) (readsF_cons (z := 1) rfl (by kernel_rfl) (reads_i64 Try.underlying3) (fun _ _ => rfl) (readsF_cons (z := 1) rfl (by kernel_rfl) (reads_i64 Try.underlying3) (fun _ _ => rfl) (readsF_cons (z := 1) rfl (by kernel_rfl) (reads_i64 Try.underlying3) (fun _ _ => rfl) (readsF_cons (z := 1) rfl (by kernel_rfl) (reads_text Try.underlying9) (fun _ _ => rfl) (readsF_cons (z := 8) rfl (by kernel_rfl) (reads_struct Try.underlying25 (readsF_cons (z := 1) rfl (by kernel_rfl) (reads_i64 Try.underlying3) (fun _ _ => rfl) (readsF_cons (z := 1) rfl (by kernel_rfl) (reads_i64 Try.underlying3) (fun _ _ => rfl) (readsF_cons (z := 1) rfl (by kernel_rfl) (reads_i64 Try.underlying3) (fun _ _ => rfl) (readsF_cons (z := 2) rfl (by kernel_rfl) (reads_struct Try.underlying23 (readsF_cons (z := 1) rfl (by kernel_rfl) (reads_i64 Try.underlying3) (fun _ _ => rfl) (readsF_cons (z := 1) rfl (by kernel_rfl) (reads_i64 Try.underlying3) (fun _ _ => rfl) readsF_nil)) (fun _ _ => rfl)) (fun _ _ => rfl) (readsF_cons (z := 1) rfl (by kernel_rfl) (reads_i64 Try.underlying3) (fun _ _ => rfl) (readsF_cons (z := 1) rfl (by kernel_rfl) (reads_i64 Try.underlying3) (fun _ _ => rfl) (readsF_cons (z := 1) rfl (by kernel_rfl) (reads_bool Try.underlying4) (fun _ _ => rfl) readsF_nil))))))) (fun _ _ => rfl)) (fun _ _ => rfl) (readsF_cons (z := 14) rfl (by kernel_rfl) (reads_struct Try.underlying29 (readsF_cons (z := 1) rfl (by kernel_rfl) (reads_i64 Try.underlying3) (fun _ _ => rfl) (readsF_cons (z := 1) rfl (by kernel_rfl) (reads_i64 Try.underlying3) (fun _ _ => rfl) (readsF_cons (z := 1) rfl (by kernel_rfl) (reads_text Try.underlying9) (fun _ _ => rfl) (readsF_cons (z := 1) rfl (by kernel_rfl) (reads_i64 Try.underlying3) (fun _ _ => rfl) (readsF_cons (z := 1) rfl (by kernel_rfl) (reads_i64 Try.underlying3) (fun _ _ => rfl) (readsF_cons (z := 2) rfl (by kernel_rfl) (reads_struct Try.underlying23 (readsF_cons (z := 1) rfl (by kernel_rfl) (reads_i64 Try.underlying3) (fun _ _ => rfl) (readsF_cons (z := 1) rfl (by kernel_rfl) (reads_i64 Try.underlying3) (fun _ _ => rfl) readsF_nil)) (fun _ _ => rfl)) (fun _ _ => rfl) (readsF_cons (z := 1) rfl (by kernel_rfl) (reads_list (z := 8) Try.underlying26 (by kernel_rfl) (by omega) rdAsk (fun _ _ => rfl)) (fun _ _ => rfl) (readsF_cons (z := 1) rfl (by kernel_rfl) (reads_i64 Try.underlying3) (fun _ _ => rfl) (readsF_cons (z := 1) rfl (by kernel_rfl) (reads_i64 Try.underlying3) (fun _ _ => rfl) (readsF_cons (z := 1) rfl (by kernel_rfl) (reads_ints Try.underlying27 Try.underlying3 (by kernel_rfl)) (fun _ _ => rfl) (readsF_cons (z := 1) rfl (by kernel_rfl) (reads_ints Try.underlying27 Try.underlying3 (by kernel_rfl)) (fun _ _ => rfl) (readsF_cons (z := 1) rfl (by kernel_rfl) (reads_ints Try.underlying27 Try.underlying3 (by kernel_rfl)) (fun _ _ => rfl) (readsF_cons (z := 1) rfl (by kernel_rfl) (reads_ints Try.underlying27 Try.underlying3 (by kernel_rfl)) (fun _ _ => rfl) readsF_nil))))))))))))) (fun _ _ => rfl)) (fun _ _ => rfl) (readsF_cons (z := 1) rfl (by kernel_rfl) (reads_list (z := 8) Try.underlying26 (by kernel_rfl) (by omega) rdAsk (fun _ _ => rfl)) (fun _ _ => rfl) (readsF_cons (z := 1) rfl (by kernel_rfl) (reads_ints Try.underlying27 Try.underlying3 (by kernel_rfl)) (fun _ _ => rfl) (readsF_cons (z := 6) rfl (by kernel_rfl) (reads_struct Try.underlying31 (readsF_cons (z := 1) rfl (by kernel_rfl) (reads_i64 Try.underlying3) (fun _ _ => rfl) (readsF_cons (z := 1) rfl (by kernel_rfl) (reads_i64 Try.underlying3) (fun _ _ => rfl) (readsF_cons (z := 1) rfl (by kernel_rfl) (reads_i64 Try.underlying3) (fun _ _ => rfl) (readsF_cons (z := 1) rfl (by kernel_rfl) (reads_i64 Try.underlying3) (fun _ _ => rfl) (readsF_cons (z := 2) rfl (by kernel_rfl) (reads_struct Try.underlying23 (readsF_cons (z := 1) rfl (by kernel_rfl) (reads_i64 Try.underlying3) (fun _ _ => rfl) (readsF_cons (z := 1) rfl (by kernel_rfl) (reads_i64 Try.underlying3) (fun _ _ => rfl) readsF_nil)) (fun _ _ => rfl)) (fun _ _ => rfl) readsF_nil))))) (fun _ _ => rfl)) (fun _ _ => rfl) readsF_nil)))))))))) (fun _ _ => rfl)) (fun a => Inp.mk a.1 a.2.1 a.2.2.1 a.2.2.2.1 a.2.2.2.2.1 a.2.2.2.2.2.1.1 a.2.2.2.2.2.1.2.1 a.2.2.2.2.2.1.2.2.1 a.2.2.2.2.2.1.2.2.2.1.1 a.2.2.2.2.2.1.2.2.2.1.2.1 a.2.2.2.2.2.1.2.2.2.2.1 a.2.2.2.2.2.1.2.2.2.2.2.1 a.2.2.2.2.2.1.2.2.2.2.2.2.1 a.2.2.2.2.2.2.1.1 a.2.2.2.2.2.2.1.2.1 a.2.2.2.2.2.2.1.2.2.1 a.2.2.2.2.2.2.1.2.2.2.1 a.2.2.2.2.2.2.1.2.2.2.2.1 a.2.2.2.2.2.2.1.2.2.2.2.2.1.1 a.2.2.2.2.2.2.1.2.2.2.2.2.1.2.1 a.2.2.2.2.2.2.1.2.2.2.2.2.2.1 a.2.2.2.2.2.2.1.2.2.2.2.2.2.2.1 a.2.2.2.2.2.2.1.2.2.2.2.2.2.2.2.1 a.2.2.2.2.2.2.1.2.2.2.2.2.2.2.2.2.1 a.2.2.2.2.2.2.1.2.2.2.2.2.2.2.2.2.2.1 a.2.2.2.2.2.2.1.2.2.2.2.2.2.2.2.2.2.2.1 a.2.2.2.2.2.2.1.2.2.2.2.2.2.2.2.2.2.2.2.1 a.2.2.2.2.2.2.2.1 a.2.2.2.2.2.2.2.2.1 a.2.2.2.2.2.2.2.2.2.1.1 a.2.2.2.2.2.2.2.2.2.1.2.1 a.2.2.2.2.2.2.2.2.2.1.2.2.1 a.2.2.2.2.2.2.2.2.2.1.2.2.2.1 a.2.2.2.2.2.2.2.2.2.1.2.2.2.2.1.1 a.2.2.2.2.2.2.2.2.2.1.2.2.2.2.1.2.1) fun a h => ⟨rfl, ⟨h.1, h.2.1, h.2.2.1, h.2.2.2.1, h.2.2.2.2.1, h.2.2.2.2.2.1.1, h.2.2.2.2.2.1.2.1, h.2.2.2.2.2.1.2.2.1, h.2.2.2.2.2.1.2.2.2.1.1, h.2.2.2.2.2.1.2.2.2.1.2.1, h.2.2.2.2.2.1.2.2.2.2.1, h.2.2.2.2.2.1.2.2.2.2.2.1, h.2.2.2.2.2.2.1.1, h.2.2.2.2.2.2.1.2.1, h.2.2.2.2.2.2.1.2.2.1, h.2.2.2.2.2.2.1.2.2.2.1, h.2.2.2.2.2.2.1.2.2.2.2.1, h.2.2.2.2.2.2.1.2.2.2.2.2.1.1, h.2.2.2.2.2.2.1.2.2.2.2.2.1.2.1, h.2.2.2.2.2.2.1.2.2.2.2.2.2.1, h.2.2.2.2.2.2.1.2.2.2.2.2.2.2.1, h.2.2.2.2.2.2.1.2.2.2.2.2.2.2.2.1, h.2.2.2.2.2.2.1.2.2.2.2.2.2.2.2.2.1, h.2.2.2.2.2.2.1.2.2.2.2.2.2.2.2.2.2.1, h.2.2.2.2.2.2.1.2.2.2.2.2.2.2.2.2.2.2.1, h.2.2.2.2.2.2.1.2.2.2.2.2.2.2.2.2.2.2.2.1, h.2.2.2.2.2.2.2.1, h.2.2.2.2.2.2.2.2.1, h.2.2.2.2.2.2.2.2.2.1.1, h.2.2.2.2.2.2.2.2.2.1.2.1, h.2.2.2.2.2.2.2.2.2.1.2.2.1, h.2.2.2.2.2.2.2.2.2.1.2.2.2.1, h.2.2.2.2.2.2.2.2.2.1.2.2.2.2.1.1, h.2.2.2.2.2.2.2.2.2.1.2.2.2.2.1.2.1⟩⟩

theorem Inp.Ok.len {x : Inp} (h : x.Ok) : x.Len := ⟨h.text, h.aQ, h.asks.2, h.ids.2⟩
end Go.Proofs.Ytgpipheibnlkhaa
