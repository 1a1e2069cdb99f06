/- In any state that steps lead to, at any time, each node is found, with what is used, and free, and who was silent too long, as the document says. No condition. -/
import Derived.Test.YtakemdamegfcfaaGreatT45
import Derived.Test.YtakemdamegfcfaaGreatT34
import Derived.Test.YtakemdamegfcfaaGreatRows
import Derived.KernelRfl
import Derived.ProofKit
import Derived.JoinedTies
set_option linter.unusedSimpArgs false
set_option linter.unusedVariables false
namespace Go.Proofs.YtakemdamegfcfaaGreat.nodesAsks
open Go Go.Ab Go.RowKit
theorem own:ownKnob Tryz.prog.godebug=none:=by kernel_rfl
theorem fits:laidOutB Tryz.prog=true:=by kernel_rfl
theorem answers:∀ (H:Type) (ds:List (DataW H)),ds.length=Tryz.f5.params.toList.length->Rows.nodesAsksSpec.fn H ds=⟨[.lit (.bool true)],ds,[]⟩:=by
 intro H ds h
 rw [Tryz.params5] at h
 match ds,h with
 | [d0,d1,d2],_=>rfl
set_option maxRecDepth 100000 in
theorem lifted (os:Os) (started:os.Started) (H:Type) (enc:TypeId×Value->H) :
 ReturnsInHanded {} Tryz.checked os 5 .any (Rows.nodesAsksSpec.pre6 enc Tryz.prog Tryz.f5 Rows.nodesAsksRow.domain false) (Rows.nodesAsksSpec.post enc Tryz.prog Tryz.f5 false true false false):=by
 refine returnsInHanded_of_change (C:=Tryz.checked) own started (by kernel_rfl) Tryz.func5
  (ChangeSpec.witness6 (enc:=enc) (C:=Tryz.checked) false ⟨#[],#[.agg #[.int .i64 0,.slice none 0 0,.slice none 0 0],.int .i64 0,.int .i64 0],[]⟩ 8 (by kernel_rfl) (by kernel_rfl) (by kernel_rfl) (by kernel_rfl)) ?_
 intro W base args ds gs before hval hW _ _
 have hR:=(xO (aUr) (.inr ⟨by kernel_rfl,fun a=>⟨_,rfl,List.all_eq_true.1 (by rfl:[AV.int .i64 a.shape,.sl false 1 (a.ns.map I64),.sl false 5 (a.acts.map ACT)].all AV.one=true)⟩⟩) (xO (hJ Tryz.underlying3) (.inl ⟨by kernel_rfl,fun _=>rfl⟩) (xO (hJ Tryz.underlying3) (.inl ⟨by kernel_rfl,fun _=>rfl⟩) aAc)))
 exact aIb (fn:=Tryz.f5) (tb:=4) (by rw [Tryz.params5]) hR rfl answers (by kernel_rfl) Tryz.underlying4 fits (by kernel_rfl) (fun a h=>a25 a.1 a.2.1 a.2.2.1) hval hW
theorem aYJ:Rows.nodesAsksRow.holds Tryz.pinned (OpenSpec.ofChange Rows.nodesAsksSpec) :=
 OpenClaim.holds_of_wide 5 Tryz.f5 rfl rfl rfl rfl rfl rfl rfl ⟨rfl,rfl,rfl,rfl,rfl⟩ rfl rfl rfl rfl rfl (by kernel_rfl) Tryz.func5 (by kernel_rfl)
  (of_decide_eq_true (by kernel_rfl)) (by unfold Func.isWrapper;first|(rw [if_pos (by decide +kernel)];kernel_rfl)|(rw [if_neg (by decide +kernel)];exact ⟨rfl,rfl⟩))
  (fun os started H enc _=>lifted os started H enc)
theorem proved:Rows.NodesAsksSaid:=aYJ
end Go.Proofs.YtakemdamegfcfaaGreat.nodesAsks
