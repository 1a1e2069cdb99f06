/- A part of a proof: what functions of the program compute. No condition. -/
import Derived.Test.YtakemdamegfcfaaGreatT33
import Derived.Test.YtakemdamegfcfaaGreatT34
import Derived.KernelRfl
set_option linter.unusedSimpArgs false
set_option linter.unusedVariables false
set_option maxRecDepth 20000
namespace Go.Proofs.YtakemdamegfcfaaGreat
open Go Go.Ab
def SCR (x:Scr):AV:=.agg [.int .i64 x.shape,.sl false 1 (x.ns.map I64),.sl false 5 (x.acts.map ACT)]
theorem aQu (x:Scr):Vw true [] (SCR x) (.agg (jJ x)):=fun G E v hm hv=>by
 unfold SCR at hv
 cases hv with
 | agg hl _ hk =>
   refine .agg hl (fun y hy=>?_) fun k y hy=>?_
   · simp only [jJ,List.mem_cons,List.not_mem_nil,or_false] at hy
     rcases hy with rfl|rfl|rfl<;>rfl
   · match k,hy with
     | 0,hy=>simp only [jJ,List.getElem?_cons_zero,Option.some.injEq] at hy;subst hy;exact Vw.refl rfl G E _ hm (hk 0 _ rfl)
     | 1,hy=>simp only [jJ,List.getElem?_cons_succ,List.getElem?_cons_zero,Option.some.injEq] at hy;subst hy;exact Vw.sub G E _ hm (hk 1 _ rfl)
     | 2,hy=>simp only [jJ,List.getElem?_cons_succ,List.getElem?_cons_zero,Option.some.injEq] at hy;subst hy;exact Vw.sub G E _ hm (hk 2 _ rfl)
     | k+3,hy=>simp [jJ] at hy
theorem aGb {f:FuncId} {rs:List AV} {p:AV->Prop} (x:Scr) (h:aW Tryz.prog f (.agg (jJ x) :: rs) [] fun y _=>p y) (ha:rs.all AV.low=true) (hp:∀ y,p y->y.low=true/\y.aM=false):aW Tryz.prog f (SCR x :: rs) [] fun y _=>p y :=
 (aW.aIa (aM:=true) h (.cons (aQu x) (.refl ha)) fun y hy=>⟨(hp y hy).1,fun _=>(hp y hy).2⟩).mono fun y G h=>h.1
theorem aUs:Reads Tryz.prog 104 ACT (fun _=>True) :=
 Reads.map (oP Tryz.underlying104 (eQ (z:=1) rfl (by kernel_rfl) (hJ Tryz.underlying3) (fun _ _=>rfl) (eQ (z:=1) rfl (by kernel_rfl) (hJ Tryz.underlying3) (fun _ _=>rfl) (eQ (z:=1) rfl (by kernel_rfl) (hJ Tryz.underlying3) (fun _ _=>rfl) (eQ (z:=1) rfl (by kernel_rfl) (hJ Tryz.underlying3) (fun _ _=>rfl) (eQ (z:=1) rfl (by kernel_rfl) (hJ Tryz.underlying3) (fun _ _=>rfl) sO))))) (fun _ _=>rfl)) (fun a=>Act.mk a.1 a.2.1 a.2.2.1 a.2.2.2.1 a.2.2.2.2.1) fun a h=>⟨rfl,trivial⟩
theorem aUr:Reads Tryz.prog 25 SCR (fun _=>True) :=
 Reads.map (oP Tryz.underlying25 (eQ (z:=1) rfl (by kernel_rfl) (hJ Tryz.underlying3) (fun _ _=>rfl) (eQ (z:=1) rfl (by kernel_rfl) (aAb Tryz.underlying22 Tryz.underlying3 (by kernel_rfl)) (fun _ _=>rfl) (eQ (z:=1) rfl (by kernel_rfl) (sN (z:=5) Tryz.underlying23 (by kernel_rfl) (by omega) aUs (fun _ _=>rfl)) (fun _ _=>rfl) sO))) (fun _ _=>rfl)) (fun a=>Scr.mk a.1 a.2.1 a.2.2.1) fun a h=>⟨rfl,trivial⟩
end Go.Proofs.YtakemdamegfcfaaGreat
