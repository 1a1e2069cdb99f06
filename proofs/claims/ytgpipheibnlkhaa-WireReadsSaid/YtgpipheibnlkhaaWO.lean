/- What functions of the program compute. No condition. -/
import Derived.Test.YtgpipheibnlkhaaWM
set_option linter.unusedSimpArgs false
set_option linter.unusedVariables false
namespace Go.Proofs.Ytgpipheibnlkhaa
open Go Go.Ab

structure Cont where
  (id app node mem cores prio label : Int)
  (master : Bool)
  (notice : Int)
  deriving DecidableEq, Inhabited
structure Out where
  (err : Int)
  (conts : List Cont)
  (ids gone : List Int)
  (n : Int)

def CONT (c : Cont) : AV := .agg [.int .i64 c.id, .int .i64 c.app, .int .i64 c.node, .int .i64 c.mem, .int .i64 c.cores, .int .i64 c.prio, .int .i64 c.label, .bool c.master, .int .i64 c.notice]
def outC (o : Out) : List AV := [.int .i64 o.err, .sl false 9 (o.conts.map CONT), .sl false 1 (o.ids.map I64), .sl false 1 (o.gone.map I64), .int .i64 o.n]
theorem outC_ro (o : Out) (ρ : Nat → Option Nat) : AV.roL ρ (outC o) = outC o := rfl
theorem outC_bo (o : Out) (ρ : Nat → Option Nat) (n : Nat) : AV.boL ρ n (outC o) = true := rfl
attribute [simp] outC_ro outC_bo
end Go.Proofs.Ytgpipheibnlkhaa
