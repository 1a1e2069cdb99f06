/- Any node is registered in any state that steps lead to, or refused, as the document says. No condition. -/
import Derived.Test.YtakemdamegfcfaaGreatT51
import Derived.Test.YtakemdamegfcfaaGreatT47
import Derived.Test.YtakemdamegfcfaaGreatRows
import Derived.KernelRfl
import Derived.ProofKit
import Derived.JoinedTies
set_option linter.unusedSimpArgs false
set_option linter.unusedVariables false
namespace Go.Proofs.YtakemdamegfcfaaGreat.nodesRegister
open Go Go.Ab Go.RowKit
theorem own:ownKnob Tryz.prog.godebug=none:=by kernel_rfl
theorem fits:laidOutB Tryz.prog=true:=by kernel_rfl
theorem answers:∀ (H:Type) (ds:List (DataW H)),ds.length=Tryz.f3.params.toList.length->Rows.nodesRegisterSpec.fn H ds=⟨[.lit (.bool true)],ds,[]⟩:=by
 intro H ds h
 rw [Tryz.params3] at h
 match ds,h with
 | [d0,d1,d2],_=>rfl
set_option maxRecDepth 100000 in
theorem lifted (os:Os) (started:os.Started) (H:Type) (enc:TypeId×Value->H) :
 ReturnsInHanded {} Tryz.checked os 3 .any (Rows.nodesRegisterSpec.pre6 enc Tryz.prog Tryz.f3 Rows.nodesRegisterRow.domain false) (Rows.nodesRegisterSpec.post enc Tryz.prog Tryz.f3 false true false false):=by
 refine returnsInHanded_of_change (C:=Tryz.checked) own started (by kernel_rfl) Tryz.func3
  (ChangeSpec.witness6 (enc:=enc) (C:=Tryz.checked) false ⟨#[],#[.agg #[.int .i64 0,.slice none 0 0,.slice none 0 0],.agg #[.int .i64 0,.int .i64 0,.int .i64 0,.int .i64 0,.int .i64 0,.int .i64 0,.int .i64 0,.bool false],.bool false],[]⟩ 8 (by kernel_rfl) (by kernel_rfl) (by kernel_rfl) (by kernel_rfl)) ?_
 intro W base args ds gs before hval hW _ _
 have hR:=(xO (aUr) (.inr ⟨by kernel_rfl,fun a=>⟨_,rfl,List.all_eq_true.1 (by rfl:[AV.int .i64 a.shape,.sl false 1 (a.ns.map I64),.sl false 5 (a.acts.map ACT)].all AV.one=true)⟩⟩) (xO (a2m) (.inr ⟨by kernel_rfl,fun a=>⟨_,rfl,List.all_eq_true.1 (by rfl:(cB a).all AV.one=true)⟩⟩) (xO (a1Q Tryz.underlying4) (.inl ⟨by kernel_rfl,fun _=>rfl⟩) aAc)))
 exact aIb (fn:=Tryz.f3) (tb:=4) (by rw [Tryz.params3]) hR rfl answers (by kernel_rfl) Tryz.underlying4 fits (by kernel_rfl) (fun a h=>a1X a.1 a.2.1 a.2.2.1) hval hW
theorem aYJ:Rows.nodesRegisterRow.holds Tryz.pinned (OpenSpec.ofChange Rows.nodesRegisterSpec) :=
 OpenClaim.holds_of_wide 3 Tryz.f3 rfl rfl rfl rfl rfl rfl rfl ⟨rfl,rfl,rfl,rfl,rfl⟩ rfl rfl rfl rfl rfl (by kernel_rfl) Tryz.func3 (by kernel_rfl)
  (of_decide_eq_true (by kernel_rfl)) (by unfold Func.isWrapper;first|(rw [if_pos (by decide +kernel)];kernel_rfl)|(rw [if_neg (by decide +kernel)];exact ⟨rfl,rfl⟩))
  (fun os started H enc _=>lifted os started H enc)
theorem proved:Rows.NodesRegisterSaid:=aYJ
end Go.Proofs.YtakemdamegfcfaaGreat.nodesRegister
