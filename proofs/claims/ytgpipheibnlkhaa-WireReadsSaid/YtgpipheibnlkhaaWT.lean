/- What functions of the program compute. No condition. -/
import Derived.Test.YtgpipheibnlkhaaWS
set_option linter.unusedSimpArgs false
set_option linter.unusedVariables false
namespace Go.Proofs.Ytgpipheibnlkhaa
open Go Go.Ab

def sameB (a b : Inp) : Bool :=
  if a.kind = 1 then a.text == b.text
  else if a.kind = 2 then a.nId == b.nId && (a.nLab == b.nLab && (a.nRack == b.nRack && (a.nMem == b.nMem && a.nCor == b.nCor)))
  else if a.kind = 3 then a.id == b.id && (a.beat == b.beat && a.ids == b.ids)
  else if a.kind = 4 then a.aId == b.aId && (a.aQ == b.aQ && (a.aUser == b.aUser && (a.aPrio == b.aPrio && (a.aMem == b.aMem && a.aCor == b.aCor))))
  else if a.kind = 5 then a.id == b.id && (a.beat == b.beat && (eqAsks a.asks b.asks && a.ids == b.ids))
  else if a.kind = 6 ∨ a.kind = 7 ∨ a.kind = 10 then a.id == b.id
  else if a.kind = 8 then a.n == b.n
  else if a.kind = 9 then a.pId == b.pId && (a.pLab == b.pLab && (a.pFrom == b.pFrom && (a.pUntil == b.pUntil && (a.pMem == b.pMem && (a.pCor == b.pCor && a.n == b.n)))))
  else true
def sameI (a b : Inp) : Bool := a.kind == b.kind && sameB a b

end Go.Proofs.Ytgpipheibnlkhaa
