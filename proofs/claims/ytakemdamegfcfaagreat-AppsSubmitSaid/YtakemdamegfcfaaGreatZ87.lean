/- Any application is submitted to any state that steps lead to, or refused, as the document says. No condition. -/
import Derived.Test.YtakemdamegfcfaaGreatU46
import Derived.Test.YtakemdamegfcfaaGreatT34
import Derived.Test.YtakemdamegfcfaaGreatRows
import Derived.KernelRfl
import Derived.ProofKit
import Derived.JoinedTies
set_option linter.unusedSimpArgs false
set_option linter.unusedVariables false
namespace Go.Proofs.YtakemdamegfcfaaGreat.appsSubmit
open Go Go.Ab Go.RowKit
theorem own:ownKnob Tryz.prog.godebug=none:=by kernel_rfl
theorem fits:laidOutB Tryz.prog=true:=by kernel_rfl
theorem answers:∀ (H:Type) (ds:List (DataW H)),ds.length=Tryz.f7.params.toList.length->Rows.appsSubmitSpec.fn H ds=⟨[.lit (.bool true)],ds,[]⟩:=by
 intro H ds h
 rw [Tryz.params7] at h
 match ds,h with
 | [d0,d1,d2,d3],_=>rfl
set_option maxRecDepth 100000 in
theorem lifted (os:Os) (started:os.Started) (H:Type) (enc:TypeId×Value->H) :
 ReturnsInHanded {} Tryz.checked os 7 .any (Rows.appsSubmitSpec.pre6 enc Tryz.prog Tryz.f7 Rows.appsSubmitRow.domain false) (Rows.appsSubmitSpec.post enc Tryz.prog Tryz.f7 false true false false):=by
 refine returnsInHanded_of_change (C:=Tryz.checked) own started (by kernel_rfl) Tryz.func7
  (ChangeSpec.witness6 (enc:=enc) (C:=Tryz.checked) false ⟨#[],#[.agg #[.int .i64 0,.slice none 0 0,.slice none 0 0],.agg #[.int .i64 0,.int .i64 0,.string ⟨#[]⟩,.int .i64 0,.int .i64 0,.int .i64 0,.int .i64 0,.slice none 0 0,.int .i64 0,.int .i64 0,.slice none 0 0,.slice none 0 0,.slice none 0 0,.slice none 0 0],.bool false,.int .i64 0],[]⟩ 8 (by kernel_rfl) (by kernel_rfl) (by kernel_rfl) (by kernel_rfl)) ?_
 intro W base args ds gs before hval hW _ _
 have hR:=(xO (aUr) (.inr ⟨by kernel_rfl,fun a=>⟨_,rfl,List.all_eq_true.1 (by rfl:[AV.int .i64 a.shape,.sl false 1 (a.ns.map I64),.sl false 5 (a.acts.map ACT)].all AV.one=true)⟩⟩) (xO (a6z) (.inr ⟨by kernel_rfl,fun a=>⟨_,rfl,List.all_eq_true.1 (by rfl:(bI a).all AV.one=true)⟩⟩) (xO (b8Z Tryz.underlying4) (.inl ⟨by kernel_rfl,fun _=>rfl⟩) (xO (hJ Tryz.underlying3) (.inl ⟨by kernel_rfl,fun _=>rfl⟩) aAc))))
 exact aIb (fn:=Tryz.f7) (tb:=4) (by rw [Tryz.params7]) hR rfl answers (by kernel_rfl) Tryz.underlying4 fits (by kernel_rfl) (fun a h=>a6r a.1 a.2.1 a.2.2.1 a.2.2.2.1) hval hW
theorem aYJ:Rows.appsSubmitRow.holds Tryz.pinned (OpenSpec.ofChange Rows.appsSubmitSpec) :=
 OpenClaim.holds_of_wide 7 Tryz.f7 rfl rfl rfl rfl rfl rfl rfl ⟨rfl,rfl,rfl,rfl,rfl⟩ rfl rfl rfl rfl rfl (by kernel_rfl) Tryz.func7 (by kernel_rfl)
  (of_decide_eq_true (by kernel_rfl)) (by unfold Func.isWrapper;first|(rw [if_pos (by decide +kernel)];kernel_rfl)|(rw [if_neg (by decide +kernel)];exact ⟨rfl,rfl⟩))
  (fun os started H enc _=>lifted os started H enc)
theorem proved:Rows.AppsSubmitSaid:=aYJ
end Go.Proofs.YtakemdamegfcfaaGreat.appsSubmit
