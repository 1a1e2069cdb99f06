/- What functions of the program compute. No condition. -/
import Derived.Test.YtgpipheibnlkhaaWV
import Derived.Test.YtgpipheibnlkhaaWS
import Derived.Test.YtgpipheibnlkhaaWM
set_option linter.unusedSimpArgs false
set_option linter.unusedVariables false
namespace Go.Proofs.Ytgpipheibnlkhaa
open Go Go.Ab

structure Ask.Rg (a : Ask) : Prop where
  prio : Rng a.prio
  label : Rng a.label
  mem : Rng a.mem
  cores : Rng a.cores
  count : Rng a.count
  node : Rng a.node
  rack : Rng a.rack

/-- Numbers such as a machine has. -/
structure Inp.Rg (x : Inp) : Prop where
  (id : Rng x.id)
  (beat : Rng x.beat)
  (n : Rng x.n)
  (nId : Rng x.nId)
  (nLab : Rng x.nLab)
  (nRack : Rng x.nRack)
  (nMem : Rng x.nMem)
  (nCor : Rng x.nCor)
  (aId : Rng x.aId)
  (aUser : Rng x.aUser)
  (aPrio : Rng x.aPrio)
  (aMem : Rng x.aMem)
  (aCor : Rng x.aCor)
  (asks : ∀ a ∈ x.asks, a.Rg)
  (ids : ∀ a ∈ x.ids, Rng a)
  (pId : Rng x.pId)
  (pLab : Rng x.pLab)
  (pFrom : Rng x.pFrom)
  (pUntil : Rng x.pUntil)
  (pMem : Rng x.pMem)
  (pCor : Rng x.pCor)

theorem Ask.Ok.rg {a : Ask} (h : a.Ok) : a.Rg := ⟨h.prio, h.label, h.mem, h.cores, h.count, h.node, h.rack⟩
theorem Inp.Ok.rg {x : Inp} (h : x.Ok) : x.Rg := ⟨h.id, h.beat, h.n, h.nId, h.nLab, h.nRack, h.nMem, h.nCor, h.aId, h.aUser, h.aPrio, h.aMem, h.aCor, fun a ha => (h.asks.1 a ha).rg, h.ids.1, h.pId, h.pLab, h.pFrom, h.pUntil, h.pMem, h.pCor⟩
theorem Inp.Rg.good {x : Inp} (h : x.Rg) : (goodI x).Rg := ⟨h.id, h.beat, h.n, h.nId, h.nLab, h.nRack, h.nMem, h.nCor, h.aId, h.aUser, h.aPrio, h.aMem, h.aCor, fun a ha => h.asks a (List.mem_of_mem_take ha), fun a ha => h.ids a (List.mem_of_mem_take ha), h.pId, h.pLab, h.pFrom, h.pUntil, h.pMem, h.pCor⟩

end Go.Proofs.Ytgpipheibnlkhaa
