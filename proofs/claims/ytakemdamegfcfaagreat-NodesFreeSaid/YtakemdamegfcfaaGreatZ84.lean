/- In any state that steps lead to, what is used of a node and what is free make the node. No condition. -/
import Derived.Test.YtakemdamegfcfaaGreatT46
import Derived.Test.YtakemdamegfcfaaGreatT47
import Derived.KernelRfl
import Derived.Test.YtakemdamegfcfaaGreatRows
import Derived.ProofKit
import Derived.JoinedTies
set_option linter.unusedSimpArgs false
set_option linter.unusedVariables false
set_option maxRecDepth 20000
namespace Go.Proofs.YtakemdamegfcfaaGreat
open Go Go.Ab
def SCR (x:Scr):AV:=.agg [.int .i64 x.shape,.sl false 1 (x.ns.map I64),.sl false 5 (x.acts.map ACT)]
theorem aQu (x:Scr):Vw true [] (SCR x) (.agg (jJ x)):=fun G E v hm hv=>by
 unfold SCR at hv
 cases hv with
 | agg hl _ hk =>
   refine .agg hl (fun y hy=>?_) fun k y hy=>?_
   · simp only [jJ,List.mem_cons,List.not_mem_nil,or_false] at hy
     rcases hy with rfl|rfl|rfl<;>rfl
   · match k,hy with
     | 0,hy=>simp only [jJ,List.getElem?_cons_zero,Option.some.injEq] at hy;subst hy;exact Vw.refl rfl G E _ hm (hk 0 _ rfl)
     | 1,hy=>simp only [jJ,List.getElem?_cons_succ,List.getElem?_cons_zero,Option.some.injEq] at hy;subst hy;exact Vw.sub G E _ hm (hk 1 _ rfl)
     | 2,hy=>simp only [jJ,List.getElem?_cons_succ,List.getElem?_cons_zero,Option.some.injEq] at hy;subst hy;exact Vw.sub G E _ hm (hk 2 _ rfl)
     | k+3,hy=>simp [jJ] at hy
theorem aGb {f:FuncId} {rs:List AV} {p:AV->Prop} (x:Scr) (h:aW Tryz.prog f (.agg (jJ x) :: rs) [] fun y _=>p y) (ha:rs.all AV.low=true) (hp:∀ y,p y->y.low=true/\y.aM=false):aW Tryz.prog f (SCR x :: rs) [] fun y _=>p y :=
 (aW.aIa (aM:=true) h (.cons (aQu x) (.refl ha)) fun y hy=>⟨(hp y hy).1,fun _=>(hp y hy).2⟩).mono fun y G h=>h.1
theorem aFF (x:Scr):aW Tryz.prog 4 [SCR x] [] fun y _=>y= .bool true:=aGb x (aWT x) rfl fun y hy=>by subst hy;exact ⟨rfl,rfl⟩
theorem aUs:Reads Tryz.prog 104 ACT (fun _=>True) :=
 Reads.map (oP Tryz.underlying104 (eQ (z:=1) rfl (by kernel_rfl) (hJ Tryz.underlying3) (fun _ _=>rfl) (eQ (z:=1) rfl (by kernel_rfl) (hJ Tryz.underlying3) (fun _ _=>rfl) (eQ (z:=1) rfl (by kernel_rfl) (hJ Tryz.underlying3) (fun _ _=>rfl) (eQ (z:=1) rfl (by kernel_rfl) (hJ Tryz.underlying3) (fun _ _=>rfl) (eQ (z:=1) rfl (by kernel_rfl) (hJ Tryz.underlying3) (fun _ _=>rfl) sO))))) (fun _ _=>rfl)) (fun a=>Act.mk a.1 a.2.1 a.2.2.1 a.2.2.2.1 a.2.2.2.2.1) fun a h=>⟨rfl,trivial⟩
theorem aUr:Reads Tryz.prog 25 SCR (fun _=>True) :=
 Reads.map (oP Tryz.underlying25 (eQ (z:=1) rfl (by kernel_rfl) (hJ Tryz.underlying3) (fun _ _=>rfl) (eQ (z:=1) rfl (by kernel_rfl) (aAb Tryz.underlying22 Tryz.underlying3 (by kernel_rfl)) (fun _ _=>rfl) (eQ (z:=1) rfl (by kernel_rfl) (sN (z:=5) Tryz.underlying23 (by kernel_rfl) (by omega) aUs (fun _ _=>rfl)) (fun _ _=>rfl) sO))) (fun _ _=>rfl)) (fun a=>Scr.mk a.1 a.2.1 a.2.2.1) fun a h=>⟨rfl,trivial⟩
end Go.Proofs.YtakemdamegfcfaaGreat
namespace Go.Proofs.YtakemdamegfcfaaGreat.nodesFree
open Go Go.Ab Go.RowKit
theorem own:ownKnob Tryz.prog.godebug=none:=by kernel_rfl
theorem fits:laidOutB Tryz.prog=true:=by kernel_rfl
theorem answers:∀ (H:Type) (ds:List (DataW H)),ds.length=Tryz.f4.params.toList.length->Rows.nodesFreeSpec.fn H ds=⟨[.lit (.bool true)],ds,[]⟩:=by
 intro H ds h
 rw [Tryz.params4] at h
 match ds,h with
 | [d0],_=>rfl
set_option maxRecDepth 100000 in
theorem lifted (os:Os) (started:os.Started) (H:Type) (enc:TypeId×Value->H) :
 ReturnsInHanded {} Tryz.checked os 4 .any (Rows.nodesFreeSpec.pre6 enc Tryz.prog Tryz.f4 Rows.nodesFreeRow.domain false) (Rows.nodesFreeSpec.post enc Tryz.prog Tryz.f4 false true false false):=by
 refine returnsInHanded_of_change (C:=Tryz.checked) own started (by kernel_rfl) Tryz.func4
  (ChangeSpec.witness6 (enc:=enc) (C:=Tryz.checked) false ⟨#[],#[.agg #[.int .i64 0,.slice none 0 0,.slice none 0 0]],[]⟩ 8 (by kernel_rfl) (by kernel_rfl) (by kernel_rfl) (by kernel_rfl)) ?_
 intro W base args ds gs before hval hW _ _
 have hR:=(xO (aUr) (.inr ⟨by kernel_rfl,fun a=>⟨_,rfl,List.all_eq_true.1 (by rfl:[AV.int .i64 a.shape,.sl false 1 (a.ns.map I64),.sl false 5 (a.acts.map ACT)].all AV.one=true)⟩⟩) aAc)
 exact aIb (fn:=Tryz.f4) (tb:=4) (by rw [Tryz.params4]) hR rfl answers (by kernel_rfl) Tryz.underlying4 fits (by kernel_rfl) (fun a h=>aFF a.1) hval hW
theorem aYJ:Rows.nodesFreeRow.holds Tryz.pinned (OpenSpec.ofChange Rows.nodesFreeSpec) :=
 OpenClaim.holds_of_wide 4 Tryz.f4 rfl rfl rfl rfl rfl rfl rfl ⟨rfl,rfl,rfl,rfl,rfl⟩ rfl rfl rfl rfl rfl (by kernel_rfl) Tryz.func4 (by kernel_rfl)
  (of_decide_eq_true (by kernel_rfl)) (by unfold Func.isWrapper;first|(rw [if_pos (by decide +kernel)];kernel_rfl)|(rw [if_neg (by decide +kernel)];exact ⟨rfl,rfl⟩))
  (fun os started H enc _=>lifted os started H enc)
theorem proved:Rows.NodesFreeSaid:=aYJ
end Go.Proofs.YtakemdamegfcfaaGreat.nodesFree
