/- In any state that steps lead to, an application that ends gives back all that it had, others keep what they have, and it ends once. No condition. -/
import Derived.Test.YtakemdamegfcfaaGreatU47
import Derived.Test.YtakemdamegfcfaaGreatT34
import Derived.Test.YtakemdamegfcfaaGreatRows
import Derived.KernelRfl
import Derived.ProofKit
import Derived.JoinedTies
set_option linter.unusedSimpArgs false
set_option linter.unusedVariables false
namespace Go.Proofs.YtakemdamegfcfaaGreat.appsEnds
open Go Go.Ab Go.RowKit
theorem own:ownKnob Tryz.prog.godebug=none:=by kernel_rfl
theorem fits:laidOutB Tryz.prog=true:=by kernel_rfl
theorem answers:∀ (H:Type) (ds:List (DataW H)),ds.length=Tryz.f10.params.toList.length->Rows.appsEndsSpec.fn H ds=⟨[.lit (.bool true)],ds,[]⟩:=by
 intro H ds h
 rw [Tryz.params10] at h
 match ds,h with
 | [d0,d1,d2],_=>rfl
set_option maxRecDepth 100000 in
theorem lifted (os:Os) (started:os.Started) (H:Type) (enc:TypeId×Value->H) :
 ReturnsInHanded {} Tryz.checked os 10 .any (Rows.appsEndsSpec.pre6 enc Tryz.prog Tryz.f10 Rows.appsEndsRow.domain false) (Rows.appsEndsSpec.post enc Tryz.prog Tryz.f10 false true false false):=by
 refine returnsInHanded_of_change (C:=Tryz.checked) own started (by kernel_rfl) Tryz.func10
  (ChangeSpec.witness6 (enc:=enc) (C:=Tryz.checked) false ⟨#[],#[.agg #[.int .i64 0,.slice none 0 0,.slice none 0 0],.int .i64 0,.int .i64 0],[]⟩ 8 (by kernel_rfl) (by kernel_rfl) (by kernel_rfl) (by kernel_rfl)) ?_
 intro W base args ds gs before hval hW _ _
 have hR:=(xO (aUr) (.inr ⟨by kernel_rfl,fun a=>⟨_,rfl,List.all_eq_true.1 (by rfl:[AV.int .i64 a.shape,.sl false 1 (a.ns.map I64),.sl false 5 (a.acts.map ACT)].all AV.one=true)⟩⟩) (xO (hJ Tryz.underlying3) (.inl ⟨by kernel_rfl,fun _=>rfl⟩) (xO (hJ Tryz.underlying3) (.inl ⟨by kernel_rfl,fun _=>rfl⟩) aAc)))
 exact aIb (fn:=Tryz.f10) (tb:=4) (by rw [Tryz.params10]) hR rfl answers (by kernel_rfl) Tryz.underlying4 fits (by kernel_rfl) (fun a h=>bJo a.1 a.2.1 a.2.2.1) hval hW
theorem aYJ:Rows.appsEndsRow.holds Tryz.pinned (OpenSpec.ofChange Rows.appsEndsSpec) :=
 OpenClaim.holds_of_wide 10 Tryz.f10 rfl rfl rfl rfl rfl rfl rfl ⟨rfl,rfl,rfl,rfl,rfl⟩ rfl rfl rfl rfl rfl (by kernel_rfl) Tryz.func10 (by kernel_rfl)
  (of_decide_eq_true (by kernel_rfl)) (by unfold Func.isWrapper;first|(rw [if_pos (by decide +kernel)];kernel_rfl)|(rw [if_neg (by decide +kernel)];exact ⟨rfl,rfl⟩))
  (fun os started H enc _=>lifted os started H enc)
theorem proved:Rows.AppsEndsSaid:=aYJ
end Go.Proofs.YtakemdamegfcfaaGreat.appsEnds
