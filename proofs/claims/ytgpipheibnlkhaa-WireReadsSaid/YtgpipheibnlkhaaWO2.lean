/- What functions of the program compute. No condition. -/
import Derived.Test.YtgpipheibnlkhaaWN
import Derived.Test.YtgpipheibnlkhaaWO
set_option linter.unusedSimpArgs false
set_option linter.unusedVariables false
namespace Go.Proofs.Ytgpipheibnlkhaa
open Go Go.Ab

theorem acK_nilarr {P : Program} {f : FuncId} {args : List AV} {H : List AO} {K Kp : AV → List AO → Prop} {z n : Nat} {l : List AV} (h : ACall P f (.own 0 z 0 0 :: args) [.arr z []] fun y G => y = .own 1 z 0 n ∧ G = [.dead, .arr z l])
    (ha : AV.renL (fun _ => 0) args = args) (hb : AV.belL 0 args = true) (hk : K (.own (H.length + 1) z 0 n) (H ++ [.dead, .arr z l])) : acK P f (.nils :: args) H K Kp := by
  refine acK_new (ACall.nilo h) ?_ ?_ ?_
  · show (AV.bel 0 .nils && AV.belL 0 args) = true
    rw [hb]; rfl
  · show AV.nils :: AV.renL (fun _ => 0) args = _
    rw [ha]
  · rintro y Hr ⟨rfl, rfl⟩
    exact hk

end Go.Proofs.Ytgpipheibnlkhaa
